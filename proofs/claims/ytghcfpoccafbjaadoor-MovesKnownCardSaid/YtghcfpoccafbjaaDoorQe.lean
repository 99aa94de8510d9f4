/- What is known, in plain terms. -/
import Derived.Test.YtghcfpoccafbjaaDoorQd
import Derived.KernelRfl
open Go Go.AM Go.Proofs
namespace C32
def endedM : MoveM := ⟨.empty, .empty, 1, 2, 3, .empty⟩
def askedM : MoveM := ⟨.empty, .empty, 1, 2, 1, .empty⟩
def outM : MoveM := ⟨.empty, .empty, 1, 2, 2, .empty⟩
def repM (k : Nat) : List MoveM := List.replicate k endedM
theorem rep_length (k : Nat) : (repM k).length = k := List.length_replicate
theorem rep_none (k : Nat) : opn (repM k) (repM k).length = [] := by
  cases h : opn (repM k) (repM k).length with
  | nil => rfl
  | cons y r =>
    obtain ⟨j, _, q1, _, q3⟩ := opn_mem (show y ∈ opn (repM k) (repM k).length by rw [h]; exact List.mem_cons_self ..)
    have := List.eq_of_mem_replicate (List.mem_of_getElem? q1)
    rw [this] at q3; exact absurd rfl q3
theorem set_last (l : List MoveM) (a b : MoveM) : (l ++ [a]).set l.length b = l ++ [b] := by simp [List.set_append]
theorem rep_start {k : Int} (h : 1 ≤ k ∧ k ≤ 64) : startE (repM (k - 1).toNat) .empty .empty 1 2 = 0 ∧ startN (repM (k - 1).toNat) .empty .empty 1 2 = k ∧ startL (repM (k - 1).toNat) .empty .empty 1 2 = repM (k - 1).toNat ++ [askedM] := by
  obtain ⟨a, b, c⟩ := start_empty (rep_none (k - 1).toNat) (by rw [rep_length]; omega)
  refine ⟨a, ?_, c⟩
  rw [b, rep_length]; omega
theorem rep_given {k : Int} (h : 1 ≤ k ∧ k ≤ 64) : givenE (repM (k - 1).toNat ++ [askedM]) k .empty = 0 ∧ givenL (repM (k - 1).toNat ++ [askedM]) k .empty = repM (k - 1).toNat ++ [outM] := by
  have hl := rep_length (k - 1).toNat
  have hf : findE (repM (k - 1).toNat ++ [askedM]) k = 0 := findE_at (by omega) (by rw [List.length_append, hl]; simp; omega)
  have hg : getM (repM (k - 1).toNat ++ [askedM]) k = askedM := getM_last (by omega)
  have e := g_asked (d := .empty) hf (by decide) (by rw [hg]; rfl)
  refine ⟨e, ?_⟩
  have := (g_next e).1
  rw [this, hg]
  conv => lhs; arg 2; rw [← hl]
  exact set_last _ _ _
theorem rep_taken {k : Int} (h : 1 ≤ k ∧ k ≤ 64) : takenE (repM (k - 1).toNat ++ [outM]) k = 0 ∧ takenL (repM (k - 1).toNat ++ [outM]) k = repM (k + 1 - 1).toNat := by
  have hl := rep_length (k - 1).toNat
  have hf : findE (repM (k - 1).toNat ++ [outM]) k = 0 := findE_at (by omega) (by rw [List.length_append, hl]; simp; omega)
  have hg : getM (repM (k - 1).toNat ++ [outM]) k = outM := getM_last (by omega)
  have e := t_out hf (by rw [hg]; rfl)
  refine ⟨e, ?_⟩
  have := (t_next e).1
  rw [this, hg]
  conv => lhs; arg 2; rw [← hl]
  rw [show (k + 1 - 1).toNat = (k - 1).toNat + 1 by omega]
  refine (set_last _ _ _).trans ?_
  unfold repM; rw [List.replicate_succ']; rfl
theorem start_full {l : List MoveM} (h : opn l l.length = []) (hl : l.length = 64) : startE l .empty .empty 1 2 = 4 ∧ startN l .empty .empty 1 2 = 0 ∧ startL l .empty .empty 1 2 = l := by
  have e : startE l .empty .empty 1 2 = 4 := by
    unfold startE shareB
    rw [if_pos ⟨rchk_any, by decide, by decide, by decide⟩, h]
    simp only [List.any_nil, Bool.false_eq_true, if_false]
    rw [if_pos (by omega)]
  exact ⟨e, by unfold startN; rw [e]; rfl, by unfold startL; rw [e]; rfl⟩
theorem start_bad {l : List MoveM} {r0 r1 : ByteArray} {f t : Int} (h : ¬ (rchk r0 r1 = 0 ∧ (1 ≤ f ∧ f < 8) ∧ (1 ≤ t ∧ t < 8) ∧ ¬ f = t)) : startE l r0 r1 f t = 2 ∧ startN l r0 r1 f t = 0 ∧ startL l r0 r1 f t = l := by
  have e : startE l r0 r1 f t = 2 := by unfold startE; rw [if_neg h]
  exact ⟨e, by unfold startN; rw [e]; rfl, by unfold startL; rw [e]; rfl⟩
theorem given_long {l : List MoveM} {n : Int} {d : ByteArray} (h : findE l n = 0) (hd : (65536 : Int) < (d.size : Nat)) : givenE l n d = 11 ∧ givenL l n d = l := by
  have e : givenE l n d = 11 := by unfold givenE; rw [if_pos h, if_pos hd]
  exact ⟨e, by unfold givenL; rw [e]; rfl⟩
theorem given_none {l : List MoveM} {n : Int} {d : ByteArray} (h : findE l n = 3) : givenE l n d = 3 ∧ givenL l n d = l := by
  have e : givenE l n d = 3 := by unfold givenE; rw [h, if_neg (by decide)]
  exact ⟨e, by unfold givenL; rw [e]; rfl⟩
theorem taken_none {l : List MoveM} {n : Int} (h : findE l n = 3) : takenE l n = 3 ∧ takenL l n = l := by
  have e : takenE l n = 3 := by unfold takenE; rw [h, if_neg (by decide)]
  exact ⟨e, by unfold takenL; rw [e]; rfl⟩
theorem rchk_ba : rchk ⟨#[98]⟩ ⟨#[97]⟩ = 2 := by kernel_rfl
/-- Many bytes that are zero. -/
def zrow (n : Nat) : Array Value := (Array.range (n * 1)).map (fun x => (Value.int .u8 0).cells[x % (Value.int .u8 0).cells.size]!)
theorem zrow_eq (n : Nat) : zrow n = Array.replicate n (Value.int .u8 0) := by
  apply Array.ext
  · simp [zrow]
  · intro i h1 h2
    have h3 : i % 1 = 0 := Nat.mod_one i
    simp [zrow, Value.cells, h3]
theorem bytes_zero : ∀ n, byteNums (List.replicate n (Value.int .u8 0)) = some (List.replicate n 0)
  | 0 => rfl
  | n + 1 => by simp only [List.replicate_succ, byteNums, bytes_zero n, Option.map_some]
theorem push_len : ∀ (l : List Int) (r : ByteArray), (l.foldl (fun r n => r.push (UInt8.ofNat n.toNat)) r).size = r.size + l.length
  | [], r => rfl
  | n :: l, r => by simp only [List.foldl_cons, push_len l, ByteArray.size_push, List.length_cons]; omega
/-- What is asked of a conversion. -/
def convObl (P : Program) (h : Heap) (s d : TypeId) (x v : Value) (h1 : Heap) : Prop := match withH h (bytesStrA P h s d x) with
  | some (v', h') => v = v' ∧ h1 = h'
  | none => False
theorem zero_text {h : Heap} {b : Nat} (n : Nat) (hb : h[b]? = some (.cells (zrow n) 5 (0, 0))) : ∃ t : ByteArray, convObl Tryd.prog h 47 9 (.slice (some ⟨b, 0, none⟩) n n) (.string t) h ∧ t.size = n := by
  have hl : loadN h ⟨b, 0, none⟩ n = some (zrow n) := by
    unfold loadN
    simp only [hb]
    have hz : (zrow n).size = n := by rw [zrow_eq]; exact Array.size_replicate
    rw [if_pos ⟨trivial, by omega⟩]
    congr 1
    rw [show 0 + n = (zrow n).size by omega]
    exact Array.extract_size
  refine ⟨(List.replicate n (0 : Int)).foldl (fun r n => r.push (UInt8.ofNat n.toNat)) ByteArray.empty, ?_, by rw [push_len, List.length_replicate]; simp⟩
  have e1 : Tryd.prog.underlying 47 = some (.slice 5) := by kernel_rfl
  have e2 : Tryd.prog.underlying 9 = some .string := by kernel_rfl
  have e3 : Tryd.prog.underlying 5 = some (.int .u8) := by kernel_rfl
  unfold convObl bytesStrA
  simp only [e1, e2, e3, hl, Option.bind_some]
  rw [zrow_eq, Array.toList_replicate, bytes_zero]
  exact ⟨rfl, rfl⟩
end C32
