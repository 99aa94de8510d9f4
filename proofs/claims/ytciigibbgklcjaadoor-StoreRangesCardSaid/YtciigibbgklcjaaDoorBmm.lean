/- An abstract machine for Go, part 39: the keys of a map, in order, the keys being texts. -/
import Derived.Test.YtciigibbgklcjaaDoorBml
namespace Go.AM
open Go.Proofs (encStr)
open Go.RowKit

theorem bl_lt : ∀ x y : List UInt8, Op.bytesLess x y = true → leB x y = true
  | [], [], h => by simp [Op.bytesLess] at h
  | _ :: _, [], h => by simp [Op.bytesLess] at h
  | [], _ :: _, _ => by simp [leB]
  | a :: x, b :: y, h => by
    simp only [Op.bytesLess, Bool.or_eq_true, decide_eq_true_eq, Bool.and_eq_true, beq_iff_eq] at h
    have q : x ≤ y ∨ a < b := by
      rcases h with h | ⟨_, h⟩
      · exact .inr h
      · exact .inl (of_decide_eq_true (bl_lt x y h))
    unfold leB
    rw [decide_eq_true_eq, List.cons_le_cons_iff]
    rcases h with h | ⟨h, h2⟩
    · exact .inl h
    · exact .inr ⟨h, of_decide_eq_true (bl_lt x y h2)⟩
theorem sortK_of_perm {ks ls : List ByteArray} (hp : ks.Perm ls) (hs : ls.Pairwise fun a b => Op.bytesLess a.toList b.toList = true) : sortK ks = ls := by
  unfold sortK
  rw [mergeSort_of_perm (hp.map bytesOf), List.mergeSort_of_pairwise]
  · rw [List.map_map]
    have : ((fun l : List UInt8 => (⟨l.toArray⟩ : ByteArray)) ∘ bytesOf) = id := by
      funext s; simp [bytesOf]
    rw [this, List.map_id]
  · rw [List.pairwise_map]
    exact hs.imp fun {a b} h => bl_lt _ _ (by rw [bytesOf, bytesOf]; rw [ByteArray.toList_eq, ByteArray.toList_eq] at h; exact h)

section
variable {α : Type} {P : Program} {h : Heap} {vf : α → Value}
def strV : Value → ByteArray
  | .string s => s
  | _ => .empty
/-- slices.Sorted over maps.Keys. -/
theorem MapAt.sorted {f g : FuncId} {k e t : TypeId} (hk : P.underlying k = some .string) (hz : tsz P e = 1)
    (hc : ∀ (w : World) (Bm b nn : Nat) (D0 : DataW Unit) (R : Value → Option (DataW Unit × List MemPlace)), w.cell? ⟨Bm, 0, none⟩ = some (.map (some b)) → Bm < w.heap.size → w.ownsMap P k R b nn D0 → Maps.size D0 ≤ 1000000 →
      Calls P f #[.func (.func g) #[] #[.pointer (some ⟨Bm, 0, none⟩)]] w fun e' w' => ∃ (v : Value) (ss : List (List UInt8)), e' = .returned v ∧ ss.Perm (strKeys D0) ∧ w'.ownsRow w.heap.size e 1 v ss.length ((ss.mergeSort leB).map encStr) ∧ (v = .slice none 0 0 ↔ ss = []) ∧ Below w.heap.size w w')
    {b r : Nat} {m : List (ByteArray × α)} (hb : h[b]? = some (.cells #[.map (some r)] t (0, 0))) (hm : MapAt h Value.string vf r m)
    (hs : (m.map (·.1)).Pairwise fun a b => Op.bytesLess a.toList b.toList = true) (small : ∀ p ∈ m, p.1.size ≤ maxLen) (few : m.length ≤ 1000000) :
    ∃ v h1, SoundCall P f #[.func (.func g) #[] #[.pointer (some ⟨b, 0, none⟩)]] h v h1 ∧ OwnAt h1 e strc (m.map (·.1)) v ∧ Ext h h1 ∧ ∀ z, blk v z → h.size ≤ z := by
  obtain ⟨es, ck, hr, M⟩ := hm
  have hp : (es.toList.map fun e => strV e.key).Perm (m.map (·.1)) := by
    have := M.perm.map fun q : Value × Value => strV q.1
    rw [List.map_map, List.map_map] at this
    exact this
  have ok : MapOk es ck (es.toList.map fun e => strV e.key) := by
    refine ⟨?_, ?_, ?_, M.born, M.borns, ?_⟩
    · rw [List.map_map]
      refine List.map_congr_left fun x hx => ?_
      obtain ⟨p, _, q, _⟩ := M.keyed x hx
      simp only [Function.comp_apply, q, strV]
    · intro s hs
      have := hp.mem_iff.1 hs
      obtain ⟨p, hp, rfl⟩ := List.mem_map.1 this
      exact small p hp
    · exact hp.nodup_iff.2 M.apart
    · rw [hp.length_eq, List.length_map]; exact few
  have q := sorted_sound (P := P) (h := h) hk hz hc hb hr ok
  rw [sortK_of_perm hp hs] at q
  exact q
end
end Go.AM
