/- The nodes of a set, collected. -/
import Derived.Test.YtbjehneffpbkeaaDoorKk
import Derived.KernelRfl
open Go Go.AM Go.Proofs
namespace C11
set_option maxHeartbeats 4000000 in
theorem append_no (h : Heap) (hg : At h 0 tabRow) (s : Int) (hs : 0 ≤ s ∧ s ≤ 18446744073709551615) (bx : Nat) (hx : h[bx]? = some (.cells #[.int .u64 s] 22 (0, 0))) : WCall Tryd.prog 44 #[(Value.slice none 0 0), (Value.func (.func 42) #[] #[(vP bx 0)])] h (fun v h1 => ∃ wa wc, v = .slice wa (nodesI s).length wc ∧ OwnAt h1 3 icell (nodesI s) v ∧ Ext h h1 ∧ ∀ b, blk v b → h.size ≤ b) := by
  suffices H : ∀ K : Value → Heap → Prop, (∀ v h1, (fun v h1 => ∃ wa wc, v = .slice wa (nodesI s).length wc ∧ OwnAt h1 3 icell (nodesI s) v ∧ Ext h h1 ∧ ∀ b, blk v b → h.size ≤ b) v h1 → K v h1) → WCall Tryd.prog 44 #[(Value.slice none 0 0), (Value.func (.func 42) #[] #[(vP bx 0)])] h K from H _ fun _ _ q => q
  intro K hK
  refine wcall_at { tmps := #[(Value.slice none 0 0), (Value.func (.func 42) #[] #[(vP bx 0)]), (Value.tuple #[]), (Value.tuple #[]), (Value.tuple #[]), (Value.tuple #[]), (Value.tuple #[]), (Value.tuple #[]), (Value.tuple #[]), (Value.tuple #[]), (Value.tuple #[]), (Value.tuple #[]), (Value.tuple #[])], defers := [] } (by kernel_rfl) ?_
  refine wc_seq' (subc (bodyOf Tryd.prog 44) [0]) (subc (bodyOf Tryd.prog 44) [1]) (by kernel_rfl) ?_
  obtain ⟨b943, eb944⟩ : ∃ zq, zq = h.size := ⟨_, rfl⟩
  obtain ⟨h941, e942⟩ : ∃ zq, zq = h.push (.cells #[(Value.slice none 0 0)] 41 (0, 0)) := ⟨_, rfl⟩
  have f945 := push_new e942
  rw [← eb944] at f945
  have x947 : Ext h h941 := by rw [e942]; exact Ext.push _ _
  have o948 : h.size ≤ b943 := by have := (Ext.refl h).size; omega
  have f949 := x947 _ _ hx
  have x950 := (Ext.refl h).trans x947
  refine wc_upd (n := 200) (T := ⟨fun r i => match r, i with | 0, 0 => some ((vP b943 0), h941) | _, _ => none, fun _ => none, none⟩) (x := .normal) (h1 := h941) [(2, (vP b943 0)), (4, (Value.slice none 0 0))]
    (fun q => ((vP b943 0) = (Value.pointer (some ⟨h.size, 0, none⟩)) ∧ h941 = h.push (.cells #[(Value.slice none 0 0)] 41 (0, 0))) ∧ q) (by intro K'; kernel_rfl) (fun _ q => ⟨⟨by rw [eb944], e942⟩, q⟩) ?_
  refine wc_seq' (subc (bodyOf Tryd.prog 44) [1, 0]) (subc (bodyOf Tryd.prog 44) [1, 1]) (by kernel_rfl) ?_
  refine wc_seq' (subc (bodyOf Tryd.prog 44) [1, 0, 0]) (subc (bodyOf Tryd.prog 44) [1, 0, 1]) (by kernel_rfl) ?_
  refine wc_upd (n := 200) (T := ⟨fun r i => match r, i with | _, _ => none, fun _ => none, none⟩) (x := .normal) (h1 := h941) [(6, (Value.func (.func 42) #[] #[(vP bx 0)]))]
    (fun q => q) (by intro K'; kernel_rfl) (fun _ q => q) ?_
  refine wc_block' 0 (subc (bodyOf Tryd.prog 44) [1, 0, 1, 0]) (by kernel_rfl) ?_
  obtain ⟨dv, edv⟩ : ∃ zq, zq = h941.size := ⟨_, rfl⟩
  obtain ⟨l, el⟩ : ∃ zq, zq = h941.size + 1 := ⟨_, rfl⟩
  obtain ⟨h9, e9⟩ : ∃ zq, zq = (h941.push (.deferred (some []))).push (.loop (noLoop b943 dv (Value.slice none 0 0) (Value.func (.func 42) #[] #[(vP bx 0)]) (Value.tuple #[]) (Value.slice none 0 0) (Value.tuple #[]) (Value.func (.func 42) #[] #[(vP bx 0)]) (Value.tuple #[]) (Value.tuple #[]) (Value.tuple #[]) (Value.tuple #[]) (Value.tuple #[]) (Value.tuple #[]))) := ⟨_, rfl⟩
  have x9 : Ext h941 h9 := by rw [e9]; exact (Ext.push _ _).trans (Ext.push _ _)
  have pl : At h9 l (.loop (noLoop b943 dv (Value.slice none 0 0) (Value.func (.func 42) #[] #[(vP bx 0)]) (Value.tuple #[]) (Value.slice none 0 0) (Value.tuple #[]) (Value.func (.func 42) #[] #[(vP bx 0)]) (Value.tuple #[]) (Value.tuple #[]) (Value.tuple #[]) (Value.tuple #[]) (Value.tuple #[]) (Value.tuple #[]))) := by rw [e9, el, show h941.size + 1 = (h941.push (.deferred (some []))).size by simp]; exact push_new rfl
  have pd : At h9 dv (.deferred (some [])) := by rw [e9, edv]; exact push_old (b := h941.size) rfl (push_new rfl)
  have sl9 : l < h9.size := pl.blk_lt rfl
  have lb : b943 < h941.size := row_lt f945
  have b0 : h.size ≤ b943 := o948
  have z0 : h.size ≤ h941.size := x950.size
  have z1 : 0 < h.size := hg.blk_lt rfl
  refine wc_range (h1 := h9) (c := (subc (bodyOf Tryd.prog 44) [1, 0, 1, 0])) (g := .tmp 6) (params := #[7]) (assign := subc (bodyOf Tryd.prog 44) [1, 0, 1, 0, 0]) (body := subc (bodyOf Tryd.prog 44) [1, 0, 1, 0, 1]) (by kernel_rfl) 42 #[] #[(.pointer (some ⟨bx, 0, none⟩))] l [{ target := .collected dv, args := #[] }] #[(Value.func (.yield l) #[] #[]), (.pointer (some ⟨bx, 0, none⟩))] (by rfl) (by kernel_rfl) (by kernel_rfl) (by kernel_rfl) (by rw [e9, el, edv]; kernel_rfl) ?_
  refine (each_no h9 (hg.keep fun b r _ q => (x950.trans x9) b r q) s hs l b943 dv bx (Value.slice none 0 0) (Value.func (.func 42) #[] #[(vP bx 0)]) (Value.tuple #[]) (Value.slice none 0 0) (Value.tuple #[]) (Value.func (.func 42) #[] #[(vP bx 0)]) (Value.tuple #[]) (Value.tuple #[]) (Value.tuple #[]) (Value.tuple #[]) (Value.tuple #[]) (Value.tuple #[]) pl (x9 _ _ f945) (x9 _ _ f949) (by omega) (by omega)).mono fun _ h8 q => ?_
  obtain ⟨oa, oc, q1, q2, q3, q6, q7⟩ := q
  refine ⟨_, q1, rfl, rfl, ?_⟩
  obtain ⟨h7, e7⟩ : ∃ zq, zq = h8.setIfInBounds l (.loop { noLoop b943 dv (Value.slice none 0 0) (Value.func (.func 42) #[] #[(vP bx 0)]) (Value.tuple #[]) (Value.slice none 0 0) (Value.tuple #[]) (Value.func (.func 42) #[] #[(vP bx 0)]) (Value.tuple #[]) (Value.tuple #[]) (Value.tuple #[]) (Value.tuple #[]) (Value.tuple #[]) (Value.tuple #[]) with state := .exhausted }) := ⟨_, rfl⟩
  rw [← e7]
  have rb : h7[b943]? = some (.cells #[.slice oa (nodesI s).length oc] 41 (0, 0)) := set_other e7 (show h8[b943]? = some _ from q2) (by omega)
  have pd8 : At h8 dv (.deferred (some [])) := q6.same _ _ pd (fun w => by rcases w with w | w <;> omega)
  have pd7 : At h7 dv (.deferred (some [])) := set_other e7 (show h8[dv]? = some _ from pd8) (by omega)
  have o7 := q3.keep fun b r hb q => (Chg.set e7).same b r q (fun w => by have := q7 b hb; omega)
  have x7 : Chg (fun b => b = l ∨ b = b943) h h7 := ((Chg.ext (x950.trans x9)).trans q6).trans ((Chg.set e7).weak fun b hb => .inl hb)
  refine wc_upd (n := 200) (T := ⟨fun r i => match r, i with | 4, 0 => some ((Value.slice oa ((nodesI s).length) (oc)), h7) | _, _ => none, fun _ => none, none⟩) (x := .ret) (h1 := h7) [(12, (Value.slice oa ((nodesI s).length) (oc))), (4, (Value.slice oa ((nodesI s).length) (oc)))]
    (fun q => (loadT Tryd.prog h7 41 (vP b943 0) = some (Value.slice oa ((nodesI s).length) (oc)) ∧ h7 = h7) ∧ q) (by intro K'; kernel_rfl) (fun _ q => ⟨⟨load_cell agg41 rb rfl, rfl⟩, q⟩) ?_
  refine end_mark2 (dv := dv) (Value.slice oa ((nodesI s).length) (oc)) { tmps := #[(Value.slice none 0 0), (Value.func (.func 42) #[] #[(vP bx 0)]), (vP b943 0), (Value.tuple #[]), (Value.slice oa ((nodesI s).length) (oc)), (Value.tuple #[]), (Value.func (.func 42) #[] #[(vP bx 0)]), (Value.tuple #[]), (Value.tuple #[]), (Value.tuple #[]), (Value.tuple #[]), (Value.tuple #[]), (Value.slice oa ((nodesI s).length) (oc))], defers := ([{ target := .collected dv, args := #[] }] ++ []) } (by kernel_rfl) (.inr rfl) rfl pd7 (by kernel_rfl) ?_
  obtain ⟨h6, e6⟩ : ∃ zq, zq = h7.setIfInBounds dv (.deferred none) := ⟨_, rfl⟩
  rw [← e6]
  have o6 := o7.keep fun b r hb q => (Chg.set e6).same b r q (fun w => by have := q7 b hb; omega)
  have x6 : Ext h h6 := (x7.then (Chg.set e6) (fun b hb => .inr (by omega))).toExt fun b hb => by rcases hb with w | w <;> omega
  have z9 : h.size ≤ h9.size := by have := x9.size; omega
  exact hK _ _ ⟨oa, oc, rfl, o6, x6, fun zz hz => by have := q7 zz hz; omega⟩
set_option maxHeartbeats 4000000 in
theorem collect_no (h : Heap) (hg : At h 0 tabRow) (s : Int) (hs : 0 ≤ s ∧ s ≤ 18446744073709551615) (bx : Nat) (hx : h[bx]? = some (.cells #[.int .u64 s] 22 (0, 0))) : WCall Tryd.prog 37 #[(Value.func (.func 42) #[] #[(vP bx 0)])] h (fun v h1 => ∃ wa wc, v = .slice wa (nodesI s).length wc ∧ OwnAt h1 3 icell (nodesI s) v ∧ Ext h h1 ∧ ∀ b, blk v b → h.size ≤ b) := by
  obtain ⟨_, hh955, sn956, a951, c952, rfl, o953, x957, b954⟩ := append_no h (hg.keep fun b r _ q => (Ext.refl h) b r q) s hs _ hx
  have x959 := (Ext.refl h).trans x957
  have z961 : h.size ≤ h.size := (Ext.refl h).size
  have o963 : ∀ zz, blk (Value.slice a951 ((nodesI s).length) (c952)) zz → h.size ≤ zz := fun zz hz => by have := b954 zz hz; omega
  exact hCall_of (n := 200) (T := ⟨fun r i => match r, i with | 1, 1 => some ((Value.slice a951 ((nodesI s).length) (c952)), hh955) | _, _ => none, fun _ => none, none⟩)
    (A := SoundCall Tryd.prog 44 #[(Value.slice none 0 0), (Value.func (.func 42) #[] #[(vP bx 0)])] h (Value.slice a951 ((nodesI s).length) (c952)) hh955 ∧ (fun v h1 => ∃ wa wc, v = .slice wa (nodesI s).length wc ∧ OwnAt h1 3 icell (nodesI s) v ∧ Ext h h1 ∧ ∀ b, blk v b → h.size ≤ b) (Value.slice a951 ((nodesI s).length) (c952)) hh955) (by kernel_rfl) ⟨sn956, ⟨_, _, rfl, o953, x959, o963⟩⟩
set_option maxHeartbeats 4000000 in
theorem nodes_ok (h : Heap) (hg : At h 0 tabRow) (s : Int) (hs : 0 ≤ s ∧ s ≤ 18446744073709551615) : WCall Tryd.prog 29 #[(Value.int .u64 (s))] h (fun v h1 => ∃ wa wc, v = .slice wa (nodesI s).length wc ∧ OwnAt h1 3 icell (nodesI s) v ∧ Ext h h1 ∧ ∀ b, blk v b → h.size ≤ b) := by
  obtain ⟨_, h965, s966, b964, rfl, f967, x968, w969⟩ := nodes_fn h (s)
  have o970 : h.size ≤ b964 := by have := (Ext.refl h).size; omega
  have x971 := (Ext.refl h).trans x968
  obtain ⟨_, hh976, sn977, a972, c973, rfl, o974, x978, b975⟩ := collect_no h965 (hg.keep fun b r _ q => x971 b r q) s hs _ f967
  have x980 := x971.trans x978
  have z982 : h.size ≤ h965.size := x971.size
  have o984 : ∀ zz, blk (Value.slice a972 ((nodesI s).length) (c973)) zz → h.size ≤ zz := fun zz hz => by have := b975 zz hz; omega
  exact hCall_of (n := 200) (T := ⟨fun r i => match r, i with | 1, 1 => some ((Value.func (.func 42) #[] #[(vP b964 0)]), h965) | 1, 2 => some ((Value.slice a972 ((nodesI s).length) (c973)), hh976) | _, _ => none, fun _ => none, none⟩)
    (A := SoundCall Tryd.prog 36 #[(Value.int .u64 (s))] h (Value.func (.func 42) #[] #[(vP b964 0)]) h965 ∧ SoundCall Tryd.prog 37 #[(Value.func (.func 42) #[] #[(vP b964 0)])] h965 (Value.slice a972 ((nodesI s).length) (c973)) hh976 ∧ (fun v h1 => ∃ wa wc, v = .slice wa (nodesI s).length wc ∧ OwnAt h1 3 icell (nodesI s) v ∧ Ext h h1 ∧ ∀ b, blk v b → h.size ≤ b) (Value.slice a972 ((nodesI s).length) (c973)) hh976) (by kernel_rfl) ⟨s966, sn977, ⟨_, _, rfl, o974, x980, o984⟩⟩
end C11
