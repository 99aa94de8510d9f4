/- A deed is done with a saga of a table. -/
import Derived.Test.YtjkcadbblgefdaaGreatDoorTj
import Derived.KernelRfl
open Go Go.AM Go.Proofs
namespace C29
theorem agg81 : isAggA Tryz.prog 81 = some true := by kernel_rfl
theorem size81 : (Tryz.prog.info? 81).map (·.size) = some 4 := by kernel_rfl
/-! ### deeds -/
def idN (x : DeedM) : Int := 1 + x.id.tmod 8
def oneM (m : Tab) (x : DeedM) : Tab := startM m (idN x) (defN x.rs) x.nw
def oneE (m : Tab) (x : DeedM) : Int := startE m (idN x) (defN x.rs) x.nw
def doF (m : Tab) (k : Int) : Option EffM := (nxtL m).find? fun e => decide (e.sg = k)
def doE (m : Tab) (x : DeedM) : Int :=
  if oneE m x = 0 then 0 else if x.kd.tmod 8 = 0 then canTE (oneM m x) (idN x) else
    match doF (oneM m x) (idN x) with
    | some e => resTE (oneM m x) (idN x) e.sg e.sp e.ph (resD x) x.nw
    | none => 9
def doM (m : Tab) (x : DeedM) : Tab :=
  if oneE m x = 0 then oneM m x else if x.kd.tmod 8 = 0 then canTM (oneM m x) (idN x) else
    match doF (oneM m x) (idN x) with
    | some e => resTM (oneM m x) (idN x) e.sg e.sp e.ph (resD x) x.nw
    | none => oneM m x
theorem WfT.deed {m : Tab} (w : WfT m) (x : DeedM) : WfT (doM m x) := by
  have w1 : WfT (oneM m x) := w.start _ _ _
  unfold doM
  split
  · exact w1
  · split
    · exact w1.can _
    · split
      · exact w1.res _ _ _ _ _ _
      · exact w1
theorem doE_1 {m : Tab} {x : DeedM} (h : oneE m x = 0) : doE m x = 0 ∧ doM m x = oneM m x := by unfold doE doM; rw [if_pos h, if_pos h]; exact ⟨rfl, rfl⟩
theorem doE_2 {m : Tab} {x : DeedM} (h : ¬ oneE m x = 0) (h2 : x.kd.tmod 8 = 0) : doE m x = canTE (oneM m x) (idN x) ∧ doM m x = canTM (oneM m x) (idN x) := by unfold doE doM; rw [if_neg h, if_neg h, if_pos h2, if_pos h2]; exact ⟨rfl, rfl⟩
theorem doE_3 {m : Tab} {x : DeedM} {e : EffM} (h : ¬ oneE m x = 0) (h2 : ¬ x.kd.tmod 8 = 0) (h3 : doF (oneM m x) (idN x) = some e) : doE m x = resTE (oneM m x) (idN x) e.sg e.sp e.ph (resD x) x.nw ∧ doM m x = resTM (oneM m x) (idN x) e.sg e.sp e.ph (resD x) x.nw := by unfold doE doM; rw [if_neg h, if_neg h, if_neg h2, if_neg h2, h3]; exact ⟨rfl, rfl⟩
theorem doE_4 {m : Tab} {x : DeedM} (h : ¬ oneE m x = 0) (h2 : ¬ x.kd.tmod 8 = 0) (h3 : doF (oneM m x) (idN x) = none) : doE m x = 9 ∧ doM m x = oneM m x := by unfold doE doM; rw [if_neg h, if_neg h, if_neg h2, if_neg h2, h3]; exact ⟨rfl, rfl⟩
theorem find_take {α : Type} {p : α → Bool} {l : List α} {j : Nat} {x : α} (h : (l.take j).find? p = none) (hx : l[j]? = some x) (hp : p x = true) : l.find? p = some x := by
  have e : l = l.take j ++ x :: l.drop (j + 1) := by
    obtain ⟨hj, rfl⟩ := List.getElem?_eq_some_iff.1 hx
    rw [← List.drop_eq_getElem_cons, List.take_append_drop]
  rw [e, List.find?_append, h, List.find?_cons_of_pos hp]; rfl
theorem find_next {α : Type} {p : α → Bool} {l : List α} {j : Nat} {x : α} (h : (l.take j).find? p = none) (hx : l[j]? = some x) (hp : p x = false) : (l.take (j + 1)).find? p = none := by
  rw [take_next hx, List.find?_append, h]; simp [hp]
def runM (m : Tab) (xs : List DeedM) : Tab := xs.foldl doM m
theorem runM_next {m : Tab} {xs : List DeedM} {j : Nat} {x : DeedM} (h : xs[j]? = some x) : runM m (xs.take (j + 1)) = doM (runM m (xs.take j)) x := by unfold runM; rw [take_next h, List.foldl_append]; rfl
/-! ### one by one, from the last -/
theorem ids_ix {m : Tab} {j : Nat} {k : Int} (h : (idsL m)[j]? = some k) : ∃ s, m[j]? = some (k, s) := by
  unfold idsL at h
  rw [List.getElem?_map] at h
  cases q : m[j]? with
  | none => rw [q] at h; cases h
  | some p => rw [q] at h; simp only [Option.map_some, Option.some.injEq] at h; exact ⟨p.2, by rw [← h]⟩
theorem find_ix {m : Tab} (w : WfT m) {j : Nat} {k : Int} {s : SagaM} (h : m[j]? = some (k, s)) : findK m k = some s := findK_of_mem w.ord.apart (List.mem_of_getElem? h)
theorem get_ix {m : Tab} (w : WfT m) {j : Nat} {k : Int} (h : (idsL m)[j]? = some k) : getE m k = 0 := by
  obtain ⟨s, hs⟩ := ids_ix h
  exact (getE_some (find_ix w hs)).1
theorem put_back {m : Tab} (w : WfT m) {j : Nat} {k : Int} {s : SagaM} (h : (idsL m)[j]? = some k) (hs : findK m k = some s) : putE (m.drop (j + 1)) k s = 0 ∧ putM (m.drop (j + 1)) k s = m.drop j := by
  obtain ⟨s', hs'⟩ := ids_ix h
  obtain rfl : s = s' := by have := find_ix w hs'; rw [hs] at this; exact Option.some.inj this
  have hj := (List.getElem?_eq_some_iff.1 hs').1
  have e : m.drop j = (k, s) :: m.drop (j + 1) := by
    rw [List.drop_eq_getElem_cons hj, (List.getElem?_eq_some_iff.1 hs').2]
  have ho : OrdT (m.drop j) := by
    have := w.ord; unfold OrdT at this ⊢
    rw [List.map_drop]; exact this.sublist (List.drop_sublist _ _)
  rw [e] at ho
  have hl : ∀ p ∈ m.drop (j + 1), k < p.1 := by
    intro p hp
    unfold OrdT at ho
    rw [List.map_cons, List.pairwise_cons] at ho
    exact ho.1 _ (List.mem_map_of_mem hp)
  have hn : findK (m.drop (j + 1)) k = none := findK_none.2 fun hm => by
    obtain ⟨p, hp, e⟩ := List.mem_map.1 hm
    have := hl p hp; omega
  have hk := w.at hs
  have hw := w.few
  have ha : addE (m.drop (j + 1)) k = 0 := by rw [addE_none hn, if_neg (by rw [List.length_drop]; omega)]
  have hp : putE (m.drop (j + 1)) k s = 0 := by unfold putE; rw [if_pos hk.2, if_pos hk.1, ha]
  refine ⟨hp, ?_⟩
  unfold putM
  rw [if_pos hp, e]
  cases hd : m.drop (j + 1) with
  | nil => rfl
  | cons p l =>
    have := hl p (by rw [hd]; simp)
    rw [insT, if_neg (by omega)]
set_option maxRecDepth 10000 in
set_option maxHeartbeats 4000000 in
theorem deed_ok (h : Heap) {O : Nat → Prop} {t : Nat} {m : Tab} (hT : TbAt 57 h O t m) (ok : WfT m) (x : DeedM) (hxx : DOk x) (hg0 : h[0]? = some (.cells #[(vI 0), (vI 1), (vI 3), (vI 2)] 128 (0, 0))) (hg1 : h[1]? = some (.cells #[Value.nilFunc, (Value.func (.func 178) #[] #[]), (Value.func (.func 179) #[] #[]), (Value.func (.func 180) #[] #[])] 130 (0, 0))) : WCall Tryz.prog 45 #[(vP t 0), (Value.agg #[(Value.int .u8 (x.kd)), (Value.int .u8 (x.id)), (Value.int .u8 (x.rs)), (Value.int .u8 (x.nw))])] h (fun v h1 => v = .int .i64 (doE m x) ∧ Chg O h h1 ∧ ∃ O', TbAt 57 h1 O' t (doM m x) ∧ ∀ b, O' b → O b ∨ h.size ≤ b) := by
  have own0t : ∀ zz, O zz → O zz ∨ h.size ≤ zz := fun _ w => .inl w
  have hxx' := hxx
  unfold DOk at hxx'
  suffices H : ∀ K : Value → Heap → Prop, (∀ v h1, (fun v h1 => v = .int .i64 (doE m x) ∧ Chg O h h1 ∧ ∃ O', TbAt 57 h1 O' t (doM m x) ∧ ∀ b, O' b → O b ∨ h.size ≤ b) v h1 → K v h1) → WCall Tryz.prog 45 #[(vP t 0), (Value.agg #[(Value.int .u8 (x.kd)), (Value.int .u8 (x.id)), (Value.int .u8 (x.rs)), (Value.int .u8 (x.nw))])] h K from H _ fun _ _ q => q
  intro K hK
  refine wcall_at { tmps := #[(vP t 0), (vA #[(Value.int .u8 (x.kd)), (Value.int .u8 (x.id)), (Value.int .u8 (x.rs)), (Value.int .u8 (x.nw))]), vZ, vZ, vZ, vZ, vZ, vZ, vZ, vZ, vZ, vZ, vZ, vZ, vZ, vZ, vZ, vZ, vZ, vZ, vZ, vZ, vZ, vZ, vZ, vZ, vZ, vZ, vZ, vZ, vZ, vZ, vZ, vZ, vZ, vZ, vZ, vZ, vZ, vZ, vZ, vZ, vZ, vZ, vZ, vZ, vZ, vZ, vZ, vZ, vZ, vZ, vZ, vZ], defers := [] } (by kernel_rfl) ?_
  refine wc_seq' (subc (bodyOf Tryz.prog 45) [0]) (subc (bodyOf Tryz.prog 45) [1]) (by kernel_rfl) ?_
  obtain ⟨b1, eb2⟩ : ∃ zq, zq = h.size := ⟨_, rfl⟩
  obtain ⟨h3, e4⟩ : ∃ zq, zq = h.push (.cells #[(Value.int .u8 (x.kd)), (Value.int .u8 (x.id)), (Value.int .u8 (x.rs)), (Value.int .u8 (x.nw))] 81 (0, 0)) := ⟨_, rfl⟩
  have f5 := push_new e4
  rw [← eb2] at f5
  have n6 : ∀ zz, O zz → ¬ zz = b1 := fun zz hz ez => by have := hT.blk_lt hz; omega
  have x7 : Ext h h3 := by rw [e4]; exact Ext.push _ _
  have o8 : h.size ≤ b1 := by have := (Chg.refl (O := O) h).size; omega
  have p9 := hT.keep fun b r _ q => x7 b r q
  have x10 := (Chg.refl (O := O) h).trans (Chg.ext x7)
  have y11 := (Ext.refl h).trans x7
  refine wc_ev [evA 0 0 eb2 e4] .normal h3 [(3, (vP b1 0)), (4, (vI 0))] ?_
  refine wc_seq' (subc (bodyOf Tryz.prog 45) [1, 0]) (subc (bodyOf Tryz.prog 45) [1, 1]) (by kernel_rfl) ?_
  have t12 : 0 ≤ Int.tmod (x.id) 8 ∧ Int.tmod (x.id) 8 < 8 := ⟨Int.tmod_nonneg _ (by omega), Int.tmod_lt_of_pos _ (by omega)⟩
  refine wc_ev [evC 1 1 1 agg5 f5, evV 1 2 (Value.int .u8 (Int.tmod (x.id) 8)) (show binA Tryz.prog .rem 5 (Value.int .u8 (x.id)) (Value.int .u8 8) = some (Value.int .u8 (Int.tmod (x.id) 8)) from rem_int (by omega)), evV 1 3 (vI (Int.tmod (x.id) 8)) (show (vI (Int.tmod (x.id) 8)) = (vI (IntKind.i64.wrap (Int.tmod (x.id) 8))) from by congr 1; rw [IntKind.wrap_i64]; omega), evV 1 4 (vI (1 + (Int.tmod (x.id) 8))) (show binA Tryz.prog .add 3 (vI 1) (vI (Int.tmod (x.id) 8)) = some (vI (1 + (Int.tmod (x.id) 8))) from add_i64 (by omega) (by omega))] .normal h3 [(9, (vP b1 1)), (10, (Value.int .u8 (x.id))), (11, (Value.int .u8 (Int.tmod (x.id) 8))), (12, (vI (Int.tmod (x.id) 8))), (13, (vI (1 + (Int.tmod (x.id) 8)))), (5, (vI (1 + (Int.tmod (x.id) 8))))] ?_
  refine wc_seq' (subc (bodyOf Tryz.prog 45) [1, 1, 0]) (subc (bodyOf Tryz.prog 45) [1, 1, 1]) (by kernel_rfl) ?_
  obtain ⟨_, h13, s14, w15, c16, rfl, o17, x18, n19⟩ := def_ok h3 (x.rs) (by omega)
  obtain ⟨d20, e21⟩ : ∃ q, q = defN (x.rs) := ⟨_, rfl⟩
  rw [← e21] at s14 o17 n19
  have k22 : defB d20 = true := by rw [e21]; exact defN_ok (by omega)
  have q23 := defB_of k22
  have f24 := x18 _ _ f5
  have p25 := p9.keep fun b r _ q => x18 b r q
  have x26 := x10.trans (Chg.ext x18)
  have y27 := y11.trans x18
  have z28 : h.size ≤ h3.size := x10.size
  have n29 : ∀ zz, blk (Value.slice w15 (d20.xs.length) (c16)) zz → ¬ O zz := fun zz hz ez => by have := n19 zz hz; have := p9.blk_lt ez; omega
  have o30 : ∀ zz, blk (Value.slice w15 (d20.xs.length) (c16)) zz → h.size ≤ zz := fun zz hz => by have := n19 zz hz; omega
  obtain ⟨_, h31, s32, rfl, x33, O7915, p34, o35⟩ := tstart_ok h13 p25 ok (1 + (Int.tmod (x.id) 8)) d20 _ _ (OwnAt.lat o17 stepc_size (tsz_of size67)) (by omega) (x.nw)
  have k36 := WfT.start ok (1 + (Int.tmod (x.id) 8)) d20 (x.nw)
  have e37 : startE m (1 + (Int.tmod (x.id) 8)) d20 (x.nw) = (oneE m x) := by rw [e21]; rfl
  rw [e37] at s32
  have e38 : (startM m (1 + (Int.tmod (x.id) 8)) d20 (x.nw)) = (oneM m x) := by rw [e21]; rfl
  rw [e38] at p34 k36
  have z39 : h.size ≤ h13.size := x26.size
  have x40 := x26.then x33 own0t
  have f41 := x33.same _ _ f24 (fun hb => n6 _ hb rfl)
  have p42 := o17.keep fun b r hb q => x33.same b r q (n29 b hb)
  have z43 : h.size ≤ h13.size := x26.size
  have own44 : ∀ zz, O7915 zz → O zz ∨ h.size ≤ zz := fun zz hz => (o35 zz hz).elim (own0t zz) (fun w => .inr (by omega))
  by_cases c45 : ((oneE m x) : Int) = 0
  · refine wc_ev [evC 2 3 2 agg5 f5, evC 2 6 3 agg5 f5, evV 2 7 (vI x.nw) (show (vI x.nw) = (vI (IntKind.i64.wrap (x.nw))) from by congr 1; rw [IntKind.wrap_i64]; omega), evF 2 4 s14, evC 99 0 3 agg5 f24, evF 2 8 s32, eqT 3 1 34 c45] .ret h31 [(14, (vP t 0)), (15, (vI (1 + (Int.tmod (x.id) 8)))), (16, (vP b1 2)), (17, (Value.int .u8 (x.rs))), (19, (vP b1 3)), (20, (Value.int .u8 (x.nw))), (21, (vI x.nw)), (18, (vA #[(vS d20.name), (vI d20.rt), (vI d20.dl), (vL w15 d20.xs.length c16)])), (22, (vI (oneE m x))), (6, (vI (oneE m x))), (23, (vI (oneE m x))), (24, (vB true)), (25, (vI (oneE m x))), (4, (vI (oneE m x)))] ?_
    have q9 := doE_1 (m := m) (x := x) c45
    exact end_ev [] (vI (oneE m x)) (hK _ _ (⟨by rw [q9.1, c45], x40, O7915, by rw [q9.2]; exact p34, own44⟩))
  · refine wc_ev [evC 2 3 2 agg5 f5, evC 2 6 3 agg5 f5, evV 2 7 (vI x.nw) (show (vI x.nw) = (vI (IntKind.i64.wrap (x.nw))) from by congr 1; rw [IntKind.wrap_i64]; omega), evF 2 4 s14, evC 99 0 3 agg5 f24, evF 2 8 s32, eqF 3 1 34 c45] .normal h31 [(14, (vP t 0)), (15, (vI (1 + (Int.tmod (x.id) 8)))), (16, (vP b1 2)), (17, (Value.int .u8 (x.rs))), (19, (vP b1 3)), (20, (Value.int .u8 (x.nw))), (21, (vI x.nw)), (18, (vA #[(vS d20.name), (vI d20.rt), (vI d20.dl), (vL w15 d20.xs.length c16)])), (22, (vI (oneE m x))), (6, (vI (oneE m x))), (23, (vI (oneE m x))), (24, (vB false))] ?_
    refine wc_seq' (subc (bodyOf Tryz.prog 45) [1, 1, 1, 0]) (subc (bodyOf Tryz.prog 45) [1, 1, 1, 1]) (by kernel_rfl) ?_
    have t46 : 0 ≤ Int.tmod (x.kd) 8 ∧ Int.tmod (x.kd) 8 < 8 := ⟨Int.tmod_nonneg _ (by omega), Int.tmod_lt_of_pos _ (by omega)⟩
    by_cases c47 : ((Int.tmod (x.kd) 8) : Int) = 0
    · obtain ⟨_, h48, s49, rfl, x50, O7935, p51, o52⟩ := tcancel_ok h31 p34 k36 (1 + (Int.tmod (x.id) 8))
      have k53 := WfT.can k36 (1 + (Int.tmod (x.id) 8))
      have e54 : canTE (oneM m x) (1 + (Int.tmod (x.id) 8)) = (canTE (oneM m x) (idN x)) := rfl
      rw [e54] at s49
      have e55 : (canTM (oneM m x) (1 + (Int.tmod (x.id) 8))) = (canTM (oneM m x) (idN x)) := rfl
      rw [e55] at p51 k53
      have z56 : h.size ≤ h31.size := x40.size
      have x57 := x40.then x50 own44
      have z58 : h.size ≤ h31.size := x40.size
      have own59 : ∀ zz, O7935 zz → O zz ∨ h.size ≤ zz := fun zz hz => (o52 zz hz).elim (own44 zz) (fun w => .inr (by omega))
      refine wc_ev [evC 5 1 0 agg5 f41, evV 5 2 (Value.int .u8 (Int.tmod (x.kd) 8)) (show binA Tryz.prog .rem 5 (Value.int .u8 (x.kd)) (Value.int .u8 8) = some (Value.int .u8 (Int.tmod (x.kd) 8)) from rem_int (by omega)), evV 5 3 (vB true) (show binA Tryz.prog .eql 5 (Value.int .u8 (Int.tmod (x.kd) 8)) (Value.int .u8 0) = some (vB true) from cmp_eql (decide_eq_true c47)), evF 6 2 s49] .ret h48 [(26, (vP b1 0)), (27, (Value.int .u8 (x.kd))), (28, (Value.int .u8 (Int.tmod (x.kd) 8))), (29, (vB true)), (30, (vP t 0)), (31, (vI (1 + (Int.tmod (x.id) 8)))), (32, (vI (canTE (oneM m x) (idN x)))), (4, (vI (canTE (oneM m x) (idN x))))] ?_
      have q9 := doE_2 (m := m) (x := x) c45 c47
      exact end_ev [] (vI (canTE (oneM m x) (idN x))) (hK _ _ (⟨by rw [q9.1], x57, O7935, by rw [q9.2]; exact p51, own59⟩))
    · refine wc_ev [evC 5 1 0 agg5 f41, evV 5 2 (Value.int .u8 (Int.tmod (x.kd) 8)) (show binA Tryz.prog .rem 5 (Value.int .u8 (x.kd)) (Value.int .u8 8) = some (Value.int .u8 (Int.tmod (x.kd) 8)) from rem_int (by omega)), evV 5 3 (vB false) (show binA Tryz.prog .eql 5 (Value.int .u8 (Int.tmod (x.kd) 8)) (Value.int .u8 0) = some (vB false) from cmp_eql (decide_eq_false c47))] .normal h31 [(26, (vP b1 0)), (27, (Value.int .u8 (x.kd))), (28, (Value.int .u8 (Int.tmod (x.kd) 8))), (29, (vB false))] ?_
      refine wc_seq' (subc (bodyOf Tryz.prog 45) [1, 1, 1, 1, 0]) (subc (bodyOf Tryz.prog 45) [1, 1, 1, 1, 1]) (by kernel_rfl) ?_
      refine wc_seq' (subc (bodyOf Tryz.prog 45) [1, 1, 1, 1, 0, 0]) (subc (bodyOf Tryz.prog 45) [1, 1, 1, 1, 0, 1]) (by kernel_rfl) ?_
      obtain ⟨_, h60, s61, w62, c63, rfl, o64, x65, n66⟩ := tnext_ok h31 p34 k36 (x40.same _ _ hg0 (fun w => hT.ne hg0 (by decide) (by decide) 0 w rfl)) (x40.same _ _ hg1 (fun w => hT.ne hg1 (by decide) (by decide) 1 w rfl))
      have z67 : (nxtL (oneM m x)).length ≤ 64 := Nat.le_trans (nxtL_len _) (k36).few
      have f68 := x65 _ _ f41
      have p69 := p34.keep fun b r _ q => x65 b r q
      have p70 := p42.keep fun b r _ q => x65 b r q
      have x71 := x40.trans (Chg.ext x65)
      have z72 : h.size ≤ h31.size := x40.size
      have o73 : ∀ zz, blk (Value.slice w62 ((nxtL (oneM m x)).length) (c63)) zz → h.size ≤ zz := fun zz hz => by have := n66 zz hz; omega
      refine wc_ev [evF 7 1 s61] .normal h60 [(33, (vP t 0)), (34, (Value.slice w62 ((nxtL (oneM m x)).length) (c63))), (35, (vI (((nxtL (oneM m x)).length : Nat)))), (36, (vI 0))] ?_
      refine wc_act { tmps := #[(vP t 0), (vA #[(Value.int .u8 (x.kd)), (Value.int .u8 (x.id)), (Value.int .u8 (x.rs)), (Value.int .u8 (x.nw))]), vZ, (vP b1 0), (vI 0), (vI (1 + (Int.tmod (x.id) 8))), (vI (oneE m x)), vZ, vZ, (vP b1 1), (Value.int .u8 (x.id)), (Value.int .u8 (Int.tmod (x.id) 8)), (vI (Int.tmod (x.id) 8)), (vI (1 + (Int.tmod (x.id) 8))), (vP t 0), (vI (1 + (Int.tmod (x.id) 8))), (vP b1 2), (Value.int .u8 (x.rs)), (vA #[(vS d20.name), (vI d20.rt), (vI d20.dl), (vL w15 d20.xs.length c16)]), (vP b1 3), (Value.int .u8 (x.nw)), (vI x.nw), (vI (oneE m x)), (vI (oneE m x)), (vB false), vZ, (vP b1 0), (Value.int .u8 (x.kd)), (Value.int .u8 (Int.tmod (x.kd) 8)), (vB false), vZ, vZ, vZ, (vP t 0), (Value.slice w62 ((nxtL (oneM m x)).length) (c63)), (vI (((nxtL (oneM m x)).length : Nat))), (vI 0), vZ, vZ, vZ, vZ, vZ, vZ, vZ, vZ, vZ, vZ, vZ, vZ, vZ, vZ, vZ, vZ, vZ], defers := [] } (by as_aux_lemma => kernel_rfl) ?_
      refine wc_block' 0 (subc (bodyOf Tryz.prog 45) [1, 1, 1, 1, 0, 1, 0]) (by kernel_rfl) ?_
      refine wc_loop' (subc (bodyOf Tryz.prog 45) [1, 1, 1, 1, 0, 1, 0, 0]) (by kernel_rfl) (fun n' a' h' => ∃ (k : Int) (g0 : Nat → Value), a' = { tmps := #[(vP t 0), (vA #[(Value.int .u8 (x.kd)), (Value.int .u8 (x.id)), (Value.int .u8 (x.rs)), (Value.int .u8 (x.nw))]), vZ, (vP b1 0), (g0 4), (vI (1 + (Int.tmod (x.id) 8))), (vI (oneE m x)), vZ, (g0 8), (vP b1 1), (Value.int .u8 (x.id)), (Value.int .u8 (Int.tmod (x.id) 8)), (vI (Int.tmod (x.id) 8)), (vI (1 + (Int.tmod (x.id) 8))), (vP t 0), (vI (1 + (Int.tmod (x.id) 8))), (vP b1 2), (Value.int .u8 (x.rs)), (vA #[(vS d20.name), (vI d20.rt), (vI d20.dl), (vL w15 d20.xs.length c16)]), (vP b1 3), (Value.int .u8 (x.nw)), (vI x.nw), (vI (oneE m x)), (vI (oneE m x)), (vB false), vZ, (vP b1 0), (Value.int .u8 (x.kd)), (Value.int .u8 (Int.tmod (x.kd) 8)), (vB false), vZ, vZ, vZ, (vP t 0), (Value.slice w62 ((nxtL (oneM m x)).length) (c63)), (vI (((nxtL (oneM m x)).length : Nat))), (vI k), (g0 37), (g0 38), (g0 39), (g0 40), (g0 41), (g0 42), (g0 43), (g0 44), (g0 45), (g0 46), (g0 47), (g0 48), (g0 49), (g0 50), (g0 51), (g0 52), (g0 53)], defers := [] } ∧ Chg O h h' ∧ n' = (nxtL (oneM m x)).length - k.toNat ∧ h'[b1]? = some (.cells #[(Value.int .u8 (x.kd)), (Value.int .u8 (x.id)), (Value.int .u8 (x.rs)), (Value.int .u8 (x.nw))] 81 (0, 0)) ∧ (0 ≤ k ∧ k ≤ ((nxtL (oneM m x)).length : Nat)) ∧ ((nxtL (oneM m x)).take k.toNat).find? (fun e => decide (e.sg = idN x)) = none ∧ TbAt 57 h' O7915 t (oneM m x) ∧ OwnAt h' 67 stepc d20.xs (vL w15 d20.xs.length c16) ∧ OwnAt h' 33 effc (nxtL (oneM m x)) (Value.slice w62 ((nxtL (oneM m x)).length) (c63))) ?_ ((nxtL (oneM m x)).length - (0 : Int).toNat) ⟨0, (fun i => ([vU, vU, vU, vU, (vI 0), vU, vU, vU, vZ, vU, vU, vU, vU, vU, vU, vU, vU, vU, vU, vU, vU, vU, vU, vU, vU, vU, vU, vU, vU, vU, vU, vU, vU, vU, vU, vU, vU, vZ, vZ, vZ, vZ, vZ, vZ, vZ, vZ, vZ, vZ, vZ, vZ, vZ, vZ, vZ, vZ, vZ] : List Value).getD i undef), by as_aux_lemma => kernel_rfl, x71, rfl, f68, by omega, rfl, p69, p70, o64⟩
      rintro n' _ h74 ⟨k, g0, rfl, x75, m76, f77, i78, i79, p80, p81, p82⟩
      by_cases c83 : ((k) : Int) < (((nxtL (oneM m x)).length : Nat))
      · obtain ⟨i84, v85, e86, l87, g88⟩ := list_at (nxtL (oneM m x)) (e := (k)) (by omega) (by first | omega | (simp only [List.length_set, List.length_append, List.length_singleton]; omega))
        obtain ⟨b89, o90, q91, a92, k93, u94⟩ := p82.store effc_size g88
        obtain ⟨b95, eb96⟩ : ∃ zq, zq = h74.size := ⟨_, rfl⟩
        obtain ⟨h97, e98⟩ : ∃ zq, zq = h74.push (.cells #[(vI 0), (vI 0), (vI 0)] 33 (0, 0)) := ⟨_, rfl⟩
        have f99 := push_new e98
        rw [← eb96] at f99
        have n100 : b95 ≠ b1 := by have := row_lt f77; omega
        have n101 : ∀ zz, O7915 zz → ¬ zz = b95 := fun zz hz ez => by have := p80.blk_lt hz; omega
        have n102 : ∀ zz, (blk (Value.slice w15 (d20.xs.length) (c16))) zz → ¬ zz = b95 := fun zz hz ez => by have := p81.blk_lt hz; omega
        have n103 : ∀ zz, (blk (Value.slice w62 ((nxtL (oneM m x)).length) (c63))) zz → ¬ zz = b95 := fun zz hz ez => by have := p82.blk_lt hz; omega
        have x104 : Ext h74 h97 := by rw [e98]; exact Ext.push _ _
        have o105 : h.size ≤ b95 := by have := x75.size; omega
        have f106 := x104 _ _ f77
        have p107 := p80.keep fun b r _ q => x104 b r q
        have p108 := p81.keep fun b r _ q => x104 b r q
        have p109 := p82.keep fun b r _ q => x104 b r q
        have x110 := x75.trans (Chg.ext x104)
        obtain ⟨h111, e112⟩ : ∃ zq, zq = h97.setIfInBounds b95 (.cells #[(vI (v85.sg)), (vI (v85.sp)), (vI (v85.ph))] 33 (0, 0)) := ⟨_, rfl⟩
        have f113 := set_same e112 f99
        have f114 := set_other e112 f106 n100
        have p115 := p107.keep fun b r hb q => (Chg.set e112).same b r q (n101 b hb)
        have p116 := p108.keep fun b r hb q => (Chg.set e112).same b r q (n102 b hb)
        have p117 := p109.keep fun b r hb q => (Chg.set e112).same b r q (n103 b hb)
        have x118 := x110.then (Chg.set e112) (fun b hb => by subst hb; exact (.inr o105))
        by_cases c119 : ((v85.sg) : Int) = (1 + (Int.tmod (x.id) 8))
        · obtain ⟨_, hh120, sn121, rfl, x122⟩ := resD_ok h111 x hxx 
          have f123 := x122 _ _ f114
          have f124 := x122 _ _ f113
          have p125 := p115.keep fun b r _ q => x122 b r q
          have x126 := x118.trans (Chg.ext x122)
          obtain ⟨_, h127, s128, rfl, x129, O8033, p130, o131⟩ := tresult_ok hh120 p125 k36 (1 + (Int.tmod (x.id) 8)) (v85.sg) (v85.sp) (v85.ph) ((resD x)) (x.nw) (x126.same _ _ hg0 (fun w => hT.ne hg0 (by decide) (by decide) 0 w rfl)) (x126.same _ _ hg1 (fun w => hT.ne hg1 (by decide) (by decide) 1 w rfl))
          have k132 := WfT.res k36 (1 + (Int.tmod (x.id) 8)) (v85.sg) (v85.sp) (v85.ph) ((resD x)) (x.nw)
          have e133 : resTE (oneM m x) (1 + (Int.tmod (x.id) 8)) (v85.sg) (v85.sp) (v85.ph) ((resD x)) (x.nw) = (resTE (oneM m x) (idN x) v85.sg v85.sp v85.ph (resD x) x.nw) := rfl
          rw [e133] at s128
          have e134 : (resTM (oneM m x) (1 + (Int.tmod (x.id) 8)) (v85.sg) (v85.sp) (v85.ph) ((resD x)) (x.nw)) = (resTM (oneM m x) (idN x) v85.sg v85.sp v85.ph (resD x) x.nw) := rfl
          rw [e134] at p130 k132
          have z135 : h.size ≤ hh120.size := x126.size
          have x136 := x126.then x129 own44
          have z137 : h.size ≤ hh120.size := x126.size
          have own138 : ∀ zz, O8033 zz → O zz ∨ h.size ≤ zz := fun zz hz => (o131 zz hz).elim (own44 zz) (fun w => .inr (by omega))
          refine wc_ev [ltT 8 0 3 c83, evV 9 0 (vP b89 o90) (show indexAddrA Tryz.prog 42 (Value.slice w62 ((nxtL (oneM m x)).length) (c63)) (vI k) = some (vP b89 o90) from a92 und42 size33 e86), evV 9 1 (vA #[(vI v85.sg), (vI v85.sp), (vI v85.ph)]) (show loadT Tryz.prog h74 33 (vP b89 o90) = some (vA #[(vI v85.sg), (vI v85.sp), (vI v85.ph)]) from k93.agg (j := 0) agg33 size33 (show 0 + 3 ≤ 3 by decide) (by kernel_rfl)), evA 9 2 eb96 e98, evUw 9 3 size33 f99 e112, evC 10 1 0 agg3 f113, eqT 10 3 3 c119, evLw 11 2 agg33 size33 f113, evLw 11 3 agg81 size81 f114, evC 11 6 3 agg5 f114, evV 11 7 (vI x.nw) (show (vI x.nw) = (vI (IntKind.i64.wrap (x.nw))) from by congr 1; rw [IntKind.wrap_i64]; omega), evF 11 4 sn121, evC 99 0 3 agg5 f123, evLw 99 0 agg33 size33 f124, evF 11 8 s128] .ret h127 [(37, (vB true)), (38, (vP b89 o90)), (39, (vA #[(vI v85.sg), (vI v85.sp), (vI v85.ph)])), (8, (vP b95 0)), (40, (vP b95 0)), (41, (vI v85.sg)), (42, (vI (1 + (Int.tmod (x.id) 8)))), (43, (vB true)), (44, (vP t 0)), (45, (vI (1 + (Int.tmod (x.id) 8)))), (46, (vA #[(vI v85.sg), (vI v85.sp), (vI v85.ph)])), (47, (vA #[(Value.int .u8 (x.kd)), (Value.int .u8 (x.id)), (Value.int .u8 (x.rs)), (Value.int .u8 (x.nw))])), (49, (vP b1 3)), (50, (Value.int .u8 (x.nw))), (51, (vI x.nw)), (48, (vI ((resD x)))), (52, (vI (resTE (oneM m x) (idN x) v85.sg v85.sp v85.ph (resD x) x.nw))), (4, (vI (resTE (oneM m x) (idN x) v85.sg v85.sp v85.ph (resD x) x.nw)))] ?_
          have e9 : doF (oneM m x) (idN x) = some v85 := find_take (by rw [show i84 = k.toNat by omega]; exact i79) g88 (decide_eq_true (show v85.sg = idN x from c119))
          have q9 := doE_3 (m := m) (x := x) c45 c47 e9
          exact end_ev [] (vI (resTE (oneM m x) (idN x) v85.sg v85.sp v85.ph (resD x) x.nw)) (hK _ _ (⟨by rw [q9.1], x136, O8033, by rw [q9.2]; exact p130, own138⟩))
        · refine wc_ev [ltT 8 0 3 c83, evV 9 0 (vP b89 o90) (show indexAddrA Tryz.prog 42 (Value.slice w62 ((nxtL (oneM m x)).length) (c63)) (vI k) = some (vP b89 o90) from a92 und42 size33 e86), evV 9 1 (vA #[(vI v85.sg), (vI v85.sp), (vI v85.ph)]) (show loadT Tryz.prog h74 33 (vP b89 o90) = some (vA #[(vI v85.sg), (vI v85.sp), (vI v85.ph)]) from k93.agg (j := 0) agg33 size33 (show 0 + 3 ≤ 3 by decide) (by kernel_rfl)), evA 9 2 eb96 e98, evUw 9 3 size33 f99 e112, evC 10 1 0 agg3 f113, eqF 10 3 3 c119, evV 12 0 (vI ((k) + 1)) (show binA Tryz.prog .add 3 (vI k) (vI 1) = some (vI ((k) + 1)) from add_i64 (by omega) (by omega))] .normal h111 [(37, (vB true)), (38, (vP b89 o90)), (39, (vA #[(vI v85.sg), (vI v85.sp), (vI v85.ph)])), (8, (vP b95 0)), (40, (vP b95 0)), (41, (vI v85.sg)), (42, (vI (1 + (Int.tmod (x.id) 8)))), (43, (vB false)), (53, (vI ((k) + 1))), (36, (vI ((k) + 1)))] ?_
          exact ⟨(nxtL (oneM m x)).length - (k + 1).toNat, by omega, ⟨k + 1, (fun i => ([vU, vU, vU, vU, (g0 4), vU, vU, vU, (vP b95 0), vU, vU, vU, vU, vU, vU, vU, vU, vU, vU, vU, vU, vU, vU, vU, vU, vU, vU, vU, vU, vU, vU, vU, vU, vU, vU, vU, vU, (vB true), (vP b89 o90), (vA #[(vI v85.sg), (vI v85.sp), (vI v85.ph)]), (vP b95 0), (vI v85.sg), (vI (1 + (Int.tmod (x.id) 8))), (vB false), (g0 44), (g0 45), (g0 46), (g0 47), (g0 48), (g0 49), (g0 50), (g0 51), (g0 52), (vI ((k) + 1))] : List Value).getD i undef), by as_aux_lemma => kernel_rfl, x118, rfl, f114, by omega, by rw [show (k + 1).toNat = i84 + 1 by omega]; exact find_next (by rw [show i84 = k.toNat by omega]; exact i79) g88 (decide_eq_false (show ¬ v85.sg = idN x from c119)), p115, p116, p117⟩⟩
      · refine wc_ev [ltF 8 0 3 c83] (.exit 0) h74 [(37, (vB false))] ?_
        refine wc_ev [] .ret h74 [(4, (vI 9))] ?_
        have e9 := i79
        rw [List.take_of_length_le (by omega)] at e9
        have q9 := doE_4 (m := m) (x := x) c45 c47 e9
        exact end_ev [] (vI 9) (hK _ _ (⟨by rw [q9.1], x75, O7915, by rw [q9.2]; exact p80, own44⟩))
end C29
