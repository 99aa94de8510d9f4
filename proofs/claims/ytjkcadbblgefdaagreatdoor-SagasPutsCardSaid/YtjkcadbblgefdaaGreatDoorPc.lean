/- The run of SagasPuts. -/
import Derived.Test.YtjkcadbblgefdaaGreatDoorPc0
import Derived.KernelRfl
open Go Go.AM Go.Proofs
namespace C29
theorem und77 : Tryz.prog.underlying 77 = some (.slice 81) := by kernel_rfl
set_option maxRecDepth 10000 in
set_option maxHeartbeats 4000000 in
theorem law_puts (h : Heap) (l : List DeedM) (sa : Option Addr) (cp : Nat) (hl : LAt h deedc 4 l (.slice sa l.length cp)) (hlen : l.length ≤ 9223372036854775807) (hq : ∀ x ∈ l, DOk x) (more : List DeedM) (sb : Option Addr) (cq : Nat) (hl2 : LAt h deedc 4 more (.slice sb more.length cq)) (hlen2 : more.length ≤ 9223372036854775807) (hq2 : ∀ x ∈ more, DOk x) (hg0 : h[0]? = some (.cells #[(vI 0), (vI 1), (vI 3), (vI 2)] 128 (0, 0))) (hg1 : h[1]? = some (.cells #[Value.nilFunc, (Value.func (.func 178) #[] #[]), (Value.func (.func 179) #[] #[]), (Value.func (.func 180) #[] #[])] 130 (0, 0))) : WCall Tryz.prog 8 #[(Value.slice sa (l.length) (cp)), (Value.slice sb (more.length) (cq))] h (fun v h1 => v = .bool true ∧ Ext h h1) := by
  suffices H : ∀ K : Value → Heap → Prop, (∀ v h1, (fun v h1 => v = .bool true ∧ Ext h h1) v h1 → K v h1) → WCall Tryz.prog 8 #[(Value.slice sa (l.length) (cp)), (Value.slice sb (more.length) (cq))] h K from H _ fun _ _ q => q
  intro K hK
  refine wcall_at { tmps := #[(vL sa l.length cp), (vL sb more.length cq), vZ, vZ, vZ, vZ, vZ, vZ, vZ, vZ, vZ, vZ, vZ, vZ, vZ, vZ, vZ, vZ, vZ, vZ, vZ, vZ, vZ, vZ, vZ, vZ, vZ, vZ, vZ, vZ, vZ, vZ, vZ, vZ, vZ, vZ, vZ, vZ, vZ, vZ, vZ, vZ, vZ, vZ, vZ, vZ, vZ, vZ, vZ, vZ, vZ, vZ, vZ, vZ, vZ, vZ, vZ, vZ, vZ, vZ, vZ, vZ, vZ, vZ, vZ, vZ, vZ, vZ, vZ, vZ, vZ, vZ, vZ, vZ, vZ, vZ, vZ, vZ, vZ, vZ, vZ, vZ, vZ, vZ, vZ, vZ, vZ, vZ, vZ, vZ, vZ, vZ, vZ, vZ, vZ, vZ, vZ, vZ, vZ, vZ, vZ, vZ, vZ, vZ, vZ, vZ, vZ, vZ, vZ, vZ, vZ, vZ, vZ, vZ, vZ, vZ, vZ, vZ, vZ, vZ, vZ, vZ, vZ, vZ, vZ, vZ, vZ, vZ, vZ, vZ, vZ, vZ, vZ, vZ, vZ, vZ, vZ, vZ, vZ, vZ, vZ, vZ, vZ, vZ, vZ], defers := [] } (by kernel_rfl) ?_
  refine wc_seq' (subc (bodyOf Tryz.prog 8) [0]) (subc (bodyOf Tryz.prog 8) [1]) (by kernel_rfl) ?_
  refine wc_ev [] .normal h [(4, (vB false))] ?_
  refine wc_seq' (subc (bodyOf Tryz.prog 8) [1, 0]) (subc (bodyOf Tryz.prog 8) [1, 1]) (by kernel_rfl) ?_
  obtain ⟨_, h2, s3, b4, O8055, rfl, p5, x6, w7⟩ := tnew_ok h
  have x8 := (Ext.refl h).trans x6
  have z9 : h.size ≤ h.size := (Ext.refl h).size
  have o10 : ∀ zz, O8055 zz → h.size ≤ zz := fun zz hz => by have := w7 zz hz; omega
  obtain ⟨_, h11, s12, b13, O8069, rfl, p14, x15, w16⟩ := tnew_ok h2
  have p17 := p5.keep fun b r _ q => x15 b r q
  have x18 := x8.trans x15
  have z19 : h.size ≤ h2.size := x8.size
  have n20 : ∀ zz, O8069 zz → ¬ O8055 zz := fun zz hz ez => by have := w16 zz hz; have := p5.blk_lt ez; omega
  have o21 : ∀ zz, O8069 zz → h.size ≤ zz := fun zz hz => by have := w16 zz hz; omega
  refine wc_ev [evF 1 0 s3, evF 1 1 s12] .normal h11 [(22, (vP b4 0)), (23, (vP b13 0)), (5, (vP b4 0)), (6, (vP b13 0))] ?_
  refine wc_seq' (subc (bodyOf Tryz.prog 8) [1, 1, 0]) (subc (bodyOf Tryz.prog 8) [1, 1, 1]) (by kernel_rfl) ?_
  refine wc_ev [] .normal h11 [(7, (Value.func (.func 45) #[] #[]))] ?_
  refine wc_seq' (subc (bodyOf Tryz.prog 8) [1, 1, 1, 0]) (subc (bodyOf Tryz.prog 8) [1, 1, 1, 1]) (by kernel_rfl) ?_
  refine wc_seq' (subc (bodyOf Tryz.prog 8) [1, 1, 1, 0, 0]) (subc (bodyOf Tryz.prog 8) [1, 1, 1, 0, 1]) (by kernel_rfl) ?_
  obtain ⟨mn22, e23⟩ : ∃ q : Int, q = if (60 : Int) < ((l.length : Nat)) then (60 : Int) else ((l.length : Nat)) := ⟨_, rfl⟩
  have u24 : mn22 ≤ 60 ∧ mn22 ≤ ((l.length : Nat)) ∧ 0 ≤ mn22 ∧ (((l.length : Nat)) ≤ 60 → mn22 = ((l.length : Nat))) ∧ (60 ≤ ((l.length : Nat)) → mn22 = 60) := by rw [e23]; split <;> omega
  obtain ⟨sb25, cq26, e27, p28, b29⟩ := slice_prefix deedc_size und77 size81 (by decide) (hl.slice deedc_size) (hl.pl) (kd := .i64) (n := ((mn22) : Int)) (by omega) (by omega)
  obtain ⟨zs30, e31⟩ : ∃ zq, zq = l.take (((mn22) : Int)).toNat := ⟨_, rfl⟩
  rw [← e31] at e27 p28 b29
  have lzs32 : (zs30.length : Int) = ((mn22) : Int) := by rw [e31, List.length_take]; omega
  have szs33 : ∀ x ∈ zs30, DOk x := fun x hx => hq x (List.mem_of_mem_take (by rw [← e31]; exact hx))
  refine wc_ev [evV 3 3 (vI mn22) (show (vI mn22) = (vI (if (60 : Int) < ((l.length : Nat)) then (60 : Int) else ((l.length : Nat)))) from by rw [e23]), evV 3 4 (vL sb25 zs30.length cq26) (show sliceA Tryz.prog h11 77 (vL sa l.length cp) none (some (vI mn22)) none = some (vL sb25 zs30.length cq26) from sliceA_mono (x := _) x18 e27)] .normal h11 [(24, (vL sa l.length cp)), (25, (vL sa l.length cp)), (26, (vI ((l.length : Nat)))), (27, (vI mn22)), (28, (vL sb25 zs30.length cq26)), (29, (vI ((zs30.length : Nat)))), (30, (vI 0))] ?_
  refine wc_block' 0 (subc (bodyOf Tryz.prog 8) [1, 1, 1, 0, 1, 0]) (by kernel_rfl) ?_
  refine wc_loop' (subc (bodyOf Tryz.prog 8) [1, 1, 1, 0, 1, 0, 0]) (by kernel_rfl) (fun n' a' h' => ∃ (ka : Int) (Oa : Nat → Prop) (g0 : Nat → Value), a' = { tmps := #[(vL sa l.length cp), (vL sb more.length cq), vZ, vZ, (vB false), (vP b4 0), (vP b13 0), (Value.func (.func 45) #[] #[]), vZ, (g0 9), vZ, vZ, vZ, vZ, vZ, vZ, vZ, vZ, vZ, vZ, vZ, vZ, (vP b4 0), (vP b13 0), (vL sa l.length cp), (vL sa l.length cp), (vI ((l.length : Nat))), (vI mn22), (vL sb25 zs30.length cq26), (vI ((zs30.length : Nat))), (vI ka), (g0 31), (g0 32), (g0 33), (g0 34), (g0 35), (g0 36), (g0 37), (g0 38), vZ, vZ, vZ, vZ, vZ, vZ, vZ, vZ, vZ, vZ, vZ, vZ, vZ, vZ, vZ, vZ, vZ, vZ, vZ, vZ, vZ, vZ, vZ, vZ, vZ, vZ, vZ, vZ, vZ, vZ, vZ, vZ, vZ, vZ, vZ, vZ, vZ, vZ, vZ, vZ, vZ, vZ, vZ, vZ, vZ, vZ, vZ, vZ, vZ, vZ, vZ, vZ, vZ, vZ, vZ, vZ, vZ, vZ, vZ, vZ, vZ, vZ, vZ, vZ, vZ, vZ, vZ, vZ, vZ, vZ, vZ, vZ, vZ, vZ, vZ, vZ, vZ, vZ, vZ, vZ, vZ, vZ, vZ, vZ, vZ, vZ, vZ, vZ, vZ, vZ, vZ, vZ, vZ, vZ, vZ, vZ, vZ, vZ, vZ, vZ, vZ, vZ, vZ, vZ, vZ, vZ], defers := [] } ∧ Ext h h' ∧ n' = zs30.length - ka.toNat ∧ (0 ≤ ka ∧ ka ≤ (zs30.length : Nat)) ∧ (∀ zz, Oa zz → h.size ≤ zz) ∧ WfT (runM ([] : Tab) (zs30.take ka.toNat)) ∧ (∀ zz, Oa zz → ¬ O8069 zz) ∧ TbAt 57 h' Oa b4 (runM ([] : Tab) (zs30.take ka.toNat)) ∧ TbAt 57 h' O8069 b13 ([] : Tab)) ?_ (zs30.length - (0 : Int).toNat) ⟨0, O8055, (fun i => ([vU, vU, vU, vU, vU, vU, vU, vU, vU, vZ, vU, vU, vU, vU, vU, vU, vU, vU, vU, vU, vU, vU, vU, vU, vU, vU, vU, vU, vU, vU, vU, vZ, vZ, vZ, vZ, vZ, vZ, vZ, vZ] : List Value).getD i undef), by as_aux_lemma => kernel_rfl, x18, rfl, by omega, o10, (by have q9 := WfT.nil; rw [(show ([] : Tab) = (runM ([] : Tab) (zs30.take (0 : Int).toNat)) from rfl)] at q9; exact q9), (fun zz hz hz2 => n20 zz hz2 hz), (by have q9 := p17; rw [(show ([] : Tab) = (runM ([] : Tab) (zs30.take (0 : Int).toNat)) from rfl)] at q9; exact q9), p14⟩
  rintro n' _ h34 ⟨ka, Oa, g0, rfl, x35, m36, i37, i38, i39, i40, p41, p42⟩
  by_cases c43 : ((ka) : Int) < ((zs30.length : Nat))
  · obtain ⟨i44, v45, e46, l47, g48⟩ := list_at zs30 (e := (ka)) (by omega) (by first | omega | (simp only [List.length_set, List.length_append, List.length_singleton]; omega))
    obtain ⟨b49, o50, k51, q52, a53⟩ := p28.at deedc_size g48
    have t54 := szs33 _ (List.mem_of_getElem? g48)
    have t54' := t54
    unfold DOk at t54'
    obtain ⟨b55, eb56⟩ : ∃ zq, zq = h34.size := ⟨_, rfl⟩
    obtain ⟨h57, e58⟩ : ∃ zq, zq = h34.push (.cells #[(Value.int .u8 0), (Value.int .u8 0), (Value.int .u8 0), (Value.int .u8 0)] 81 (0, 0)) := ⟨_, rfl⟩
    have f59 := push_new e58
    rw [← eb56] at f59
    have n60 : ∀ zz, Oa zz → ¬ zz = b55 := fun zz hz ez => by have := p41.blk_lt hz; omega
    have n61 : ∀ zz, O8069 zz → ¬ zz = b55 := fun zz hz ez => by have := p42.blk_lt hz; omega
    have x62 : Ext h34 h57 := by rw [e58]; exact Ext.push _ _
    have o63 : h.size ≤ b55 := by have := x35.size; omega
    have p64 := p41.keep fun b r _ q => x62 b r q
    have p65 := p42.keep fun b r _ q => x62 b r q
    have x66 := x35.trans x62
    obtain ⟨h67, e68⟩ : ∃ zq, zq = h57.setIfInBounds b55 (.cells #[(Value.int .u8 (v45.kd)), (Value.int .u8 (v45.id)), (Value.int .u8 (v45.rs)), (Value.int .u8 (v45.nw))] 81 (0, 0)) := ⟨_, rfl⟩
    have f69 := set_same e68 f59
    have p70 := p64.keep fun b r hb q => (Chg.set e68).same b r q (n60 b hb)
    have p71 := p65.keep fun b r hb q => (Chg.set e68).same b r q (n61 b hb)
    have x72 := Ext.setNew x66 e68 o63
    obtain ⟨_, h73, s74, rfl, x75, O8142, p76, o77⟩ := deed_ok h67 p70 i39 v45 t54 (x72 _ _ hg0) (x72 _ _ hg1)
    have k78 := WfT.deed i39 v45
    have z79 : h.size ≤ h67.size := x72.size
    have x80 : Ext h _ := (Chg.then (O := fun _ => False) (Chg.ext x72) x75 (fun b hb => .inr (i38 b hb))).toExt'
    have p81 := p71.keep fun b r hb q => x75.same b r q ((fun b hb hb2 => i40 b hb2 hb) b hb)
    have z82 : h.size ≤ h67.size := x72.size
    have n83 : ∀ zz, O8142 zz → ¬ O8069 zz := fun zz hz ez => by rcases o77 zz hz with g | g; (exact i40 _ g ez); have := p71.blk_lt ez; omega
    have o84 : ∀ zz, O8142 zz → h.size ≤ zz := fun zz hz => by rcases o77 zz hz with g | g; (exact i38 zz g); omega
    refine wc_ev [ltT 4 0 3 c43, evV 5 0 (vP b49 o50) (show indexAddrA Tryz.prog 77 (vL sb25 zs30.length cq26) (vI ka) = some (vP b49 o50) from a53 und77 size81 e46), evV 5 1 (vA #[(Value.int .u8 (v45.kd)), (Value.int .u8 (v45.id)), (Value.int .u8 (v45.rs)), (Value.int .u8 (v45.nw))]) (show loadT Tryz.prog h34 81 (vP b49 o50) = some (vA #[(Value.int .u8 (v45.kd)), (Value.int .u8 (v45.id)), (Value.int .u8 (v45.rs)), (Value.int .u8 (v45.nw))]) from (k51.keep fun b r _ q => x35 b r q).agg (j := 0) agg81 size81 (show 0 + 4 ≤ 4 by decide) (by kernel_rfl)), evA 5 2 eb56 e58, evUw 5 3 size81 f59 e68, evLw 6 2 agg81 size81 f69, evF 6 3 s74, evV 7 0 (vI ((ka) + 1)) (show binA Tryz.prog .add 3 (vI ka) (vI 1) = some (vI ((ka) + 1)) from add_i64 (by omega) (by omega))] .normal h73 [(31, (vB true)), (32, (vP b49 o50)), (33, (vA #[(Value.int .u8 (v45.kd)), (Value.int .u8 (v45.id)), (Value.int .u8 (v45.rs)), (Value.int .u8 (v45.nw))])), (9, (vP b55 0)), (34, (Value.func (.func 45) #[] #[])), (35, (vP b4 0)), (36, (vA #[(Value.int .u8 (v45.kd)), (Value.int .u8 (v45.id)), (Value.int .u8 (v45.rs)), (Value.int .u8 (v45.nw))])), (37, (vI (doE (runM ([] : Tab) (zs30.take ka.toNat)) v45))), (38, (vI ((ka) + 1))), (30, (vI ((ka) + 1)))] ?_
    exact ⟨zs30.length - (ka + 1).toNat, by omega, ⟨ka + 1, O8142, (fun i => ([vU, vU, vU, vU, vU, vU, vU, vU, vU, (vP b55 0), vU, vU, vU, vU, vU, vU, vU, vU, vU, vU, vU, vU, vU, vU, vU, vU, vU, vU, vU, vU, vU, (vB true), (vP b49 o50), (vA #[(Value.int .u8 (v45.kd)), (Value.int .u8 (v45.id)), (Value.int .u8 (v45.rs)), (Value.int .u8 (v45.nw))]), (Value.func (.func 45) #[] #[]), (vP b4 0), (vA #[(Value.int .u8 (v45.kd)), (Value.int .u8 (v45.id)), (Value.int .u8 (v45.rs)), (Value.int .u8 (v45.nw))]), (vI (doE (runM ([] : Tab) (zs30.take ka.toNat)) v45)), (vI ((ka) + 1))] : List Value).getD i undef), by as_aux_lemma => kernel_rfl, x80, rfl, by omega, o84, (by have q9 := k78; rw [(show doM (runM ([] : Tab) (zs30.take ka.toNat)) v45 = (runM ([] : Tab) (zs30.take (ka + 1).toNat)) from by rw [show (ka + 1).toNat = i44 + 1 by omega, runM_next g48, show i44 = ka.toNat by omega])] at q9; exact q9), n83, (by have q9 := p76; rw [(show doM (runM ([] : Tab) (zs30.take ka.toNat)) v45 = (runM ([] : Tab) (zs30.take (ka + 1).toNat)) from by rw [show (ka + 1).toNat = i44 + 1 by omega, runM_next g48, show i44 = ka.toNat by omega])] at q9; exact q9), p81⟩⟩
  · refine wc_ev [ltF 4 0 3 c43] (.exit 0) h34 [(31, (vB false))] ?_
    refine wc_seq' (subc (bodyOf Tryz.prog 8) [1, 1, 1, 1, 0]) (subc (bodyOf Tryz.prog 8) [1, 1, 1, 1, 1]) (by kernel_rfl) ?_
    obtain ⟨_, h85, s86, w87, c88, rfl, o89, x90, n91⟩ := ids_ok h34 p41 i39
    have z92 : (idsL (runM ([] : Tab) (zs30.take ka.toNat))).length ≤ 64 := Nat.le_trans (Nat.le_of_eq (idsL_len _)) (i39).few
    have p93 := p41.keep fun b r _ q => x90 b r q
    have p94 := p42.keep fun b r _ q => x90 b r q
    have x95 := x35.trans x90
    have z96 : h.size ≤ h34.size := x35.size
    have o97 : ∀ zz, blk (Value.slice w87 ((idsL (runM ([] : Tab) (zs30.take ka.toNat))).length) (c88)) zz → h.size ≤ zz := fun zz hz => by have := n91 zz hz; omega
    refine wc_ev [evF 8 1 s86] .normal h85 [(39, (vP b4 0)), (40, (Value.slice w87 ((idsL (runM ([] : Tab) (zs30.take ka.toNat))).length) (c88))), (10, (Value.slice w87 ((idsL (runM ([] : Tab) (zs30.take ka.toNat))).length) (c88)))] ?_
    refine wc_seq' (subc (bodyOf Tryz.prog 8) [1, 1, 1, 1, 1, 0]) (subc (bodyOf Tryz.prog 8) [1, 1, 1, 1, 1, 1]) (by kernel_rfl) ?_
    refine wc_seq' (subc (bodyOf Tryz.prog 8) [1, 1, 1, 1, 1, 0, 0]) (subc (bodyOf Tryz.prog 8) [1, 1, 1, 1, 1, 0, 1]) (by kernel_rfl) ?_
    refine wc_ev [] .normal h85 [(41, (Value.slice w87 ((idsL (runM ([] : Tab) (zs30.take ka.toNat))).length) (c88))), (42, (vI (((idsL (runM ([] : Tab) (zs30.take ka.toNat))).length : Nat)))), (43, (vI 0))] ?_
    refine wc_block' 2 (subc (bodyOf Tryz.prog 8) [1, 1, 1, 1, 1, 0, 1, 0]) (by kernel_rfl) ?_
    refine wc_loop' (subc (bodyOf Tryz.prog 8) [1, 1, 1, 1, 1, 0, 1, 0, 0]) (by kernel_rfl) (fun n' a' h' => ∃ (kb : Int) (Ob : Nat → Prop) (g1 : Nat → Value), a' = { tmps := #[(vL sa l.length cp), (vL sb more.length cq), vZ, vZ, (g1 4), (vP b4 0), (vP b13 0), (Value.func (.func 45) #[] #[]), vZ, (g0 9), (Value.slice w87 ((idsL (runM ([] : Tab) (zs30.take ka.toNat))).length) (c88)), (g1 11), (g1 12), (g1 13), vZ, vZ, vZ, vZ, vZ, vZ, vZ, vZ, (vP b4 0), (vP b13 0), (vL sa l.length cp), (vL sa l.length cp), (vI ((l.length : Nat))), (vI mn22), (vL sb25 zs30.length cq26), (vI ((zs30.length : Nat))), (vI ka), (vB false), (g0 32), (g0 33), (g0 34), (g0 35), (g0 36), (g0 37), (g0 38), (vP b4 0), (Value.slice w87 ((idsL (runM ([] : Tab) (zs30.take ka.toNat))).length) (c88)), (Value.slice w87 ((idsL (runM ([] : Tab) (zs30.take ka.toNat))).length) (c88)), (vI (((idsL (runM ([] : Tab) (zs30.take ka.toNat))).length : Nat))), (vI kb), (g1 44), (g1 45), (g1 46), (g1 47), (g1 48), (g1 49), (g1 50), (g1 51), (g1 52), (g1 53), (g1 54), (g1 55), (g1 56), (g1 57), (g1 58), (g1 59), (g1 60), (g1 61), (g1 62), (g1 63), (g1 64), (g1 65), (g1 66), (g1 67), (g1 68), (g1 69), (g1 70), (g1 71), (g1 72), (g1 73), (g1 74), (g1 75), vZ, vZ, vZ, vZ, vZ, vZ, vZ, vZ, vZ, vZ, vZ, vZ, vZ, vZ, vZ, vZ, vZ, vZ, vZ, vZ, vZ, vZ, vZ, vZ, vZ, vZ, vZ, vZ, vZ, vZ, vZ, vZ, vZ, vZ, vZ, vZ, vZ, vZ, vZ, vZ, vZ, vZ, vZ, vZ, vZ, vZ, vZ, vZ, vZ, vZ, vZ, vZ, vZ, vZ, vZ, vZ, vZ, vZ, vZ, vZ, vZ, vZ, vZ, vZ, vZ, vZ, vZ, vZ, vZ], defers := [] } ∧ Ext h h' ∧ n' = (idsL (runM ([] : Tab) (zs30.take ka.toNat))).length - kb.toNat ∧ (0 ≤ kb ∧ kb ≤ ((idsL (runM ([] : Tab) (zs30.take ka.toNat))).length : Nat)) ∧ (∀ zz, Ob zz → h.size ≤ zz) ∧ WfT ((runM ([] : Tab) (zs30.take ka.toNat)).drop ((runM ([] : Tab) (zs30.take ka.toNat)).length - kb.toNat)) ∧ (∀ zz, Ob zz → ¬ Oa zz) ∧ TbAt 57 h' Ob b13 ((runM ([] : Tab) (zs30.take ka.toNat)).drop ((runM ([] : Tab) (zs30.take ka.toNat)).length - kb.toNat)) ∧ TbAt 57 h' Oa b4 (runM ([] : Tab) (zs30.take ka.toNat)) ∧ OwnAt h' 3 zc (idsL (runM ([] : Tab) (zs30.take ka.toNat))) (Value.slice w87 ((idsL (runM ([] : Tab) (zs30.take ka.toNat))).length) (c88))) ?_ ((idsL (runM ([] : Tab) (zs30.take ka.toNat))).length - (0 : Int).toNat) ⟨0, O8069, (fun i => ([vU, vU, vU, vU, (vB false), vU, vU, vU, vU, vU, vU, vZ, vZ, vZ, vU, vU, vU, vU, vU, vU, vU, vU, vU, vU, vU, vU, vU, vU, vU, vU, vU, vU, vU, vU, vU, vU, vU, vU, vU, vU, vU, vU, vU, vU, vZ, vZ, vZ, vZ, vZ, vZ, vZ, vZ, vZ, vZ, vZ, vZ, vZ, vZ, vZ, vZ, vZ, vZ, vZ, vZ, vZ, vZ, vZ, vZ, vZ, vZ, vZ, vZ, vZ, vZ, vZ, vZ] : List Value).getD i undef), by as_aux_lemma => kernel_rfl, x95, rfl, by omega, o21, (by have q9 := WfT.nil; rw [(show ([] : Tab) = ((runM ([] : Tab) (zs30.take ka.toNat)).drop ((runM ([] : Tab) (zs30.take ka.toNat)).length - (0 : Int).toNat)) from (List.drop_length ..).symm)] at q9; exact q9), (fun zz hz hz2 => i40 zz hz2 hz), (by have q9 := p94; rw [(show ([] : Tab) = ((runM ([] : Tab) (zs30.take ka.toNat)).drop ((runM ([] : Tab) (zs30.take ka.toNat)).length - (0 : Int).toNat)) from (List.drop_length ..).symm)] at q9; exact q9), p93, o89⟩
    rintro n' _ h98 ⟨kb, Ob, g1, rfl, x99, m100, i101, i102, i103, i104, p105, p106, p107⟩
    have ln1 := idsL_len (runM ([] : Tab) (zs30.take ka.toNat))
    by_cases c108 : ((kb) : Int) < (((idsL (runM ([] : Tab) (zs30.take ka.toNat))).length : Nat))
    · obtain ⟨i109, v110, e111, l112, g113⟩ := list_at (idsL (runM ([] : Tab) (zs30.take ka.toNat))) (e := (((((idsL (runM ([] : Tab) (zs30.take ka.toNat))).length : Nat)) - 1) - (kb))) (by omega) (by first | omega | (simp only [List.length_set, List.length_append, List.length_singleton]; omega))
      obtain ⟨b114, o115, q116, a117, k118, u119⟩ := p107.store zc_size g113
      have gv120 := get_ix i39 g113
      obtain ⟨v121, h122, s123, p124, p125, x126⟩ := tget_ok h98 p106 i39 (v110)
      have p127 := p105.keep fun b r _ q => x126 b r q
      have p128 := p106.keep fun b r _ q => x126 b r q
      have p129 := p107.keep fun b r _ q => x126 b r q
      have x130 := x99.trans x126
      have c131 : getE (runM ([] : Tab) (zs30.take ka.toNat)) (v110) = 0 := gv120
      obtain ⟨w132, c133, p134, o135, n136⟩ := p125 c131
      have f137 := getE_zero c131
      have c138 := ((i39).at f137).1
      obtain ⟨s139, e140⟩ : ∃ q, q = (getS (runM ([] : Tab) (zs30.take ka.toNat)) (v110)) := ⟨_, rfl⟩
      rw [← e140] at p134 o135 n136 c138 f137
      have := defB_of (chkS_zero c138).1
      have z141 : h.size ≤ h98.size := x99.size
      have o142 : ∀ zz, blk (Value.slice w132 (s139.d.xs.length) (c133)) zz → h.size ≤ zz := fun zz hz => by have := n136 zz hz; omega
      obtain ⟨b143, eb144⟩ : ∃ zq, zq = h122.size := ⟨_, rfl⟩
      obtain ⟨h145, e146⟩ : ∃ zq, zq = h122.push (.cells #[(vS .empty), (vI 0), (vI 0), (Value.slice none 0 0), (vI 0), (vI 0), (vB false), (vI 0), (vI 0), (vI 0)] 38 (0, 0)) := ⟨_, rfl⟩
      have f147 := push_new e146
      rw [← eb144] at f147
      have n148 : ∀ zz, Ob zz → ¬ zz = b143 := fun zz hz ez => by have := p127.blk_lt hz; omega
      have n149 : ∀ zz, Oa zz → ¬ zz = b143 := fun zz hz ez => by have := p128.blk_lt hz; omega
      have n150 : ∀ zz, (blk (Value.slice w87 ((idsL (runM ([] : Tab) (zs30.take ka.toNat))).length) (c88))) zz → ¬ zz = b143 := fun zz hz ez => by have := p129.blk_lt hz; omega
      have n151 : ∀ zz, (blk (Value.slice w132 (s139.d.xs.length) (c133))) zz → ¬ zz = b143 := fun zz hz ez => by have := o135.blk_lt hz; omega
      have x152 : Ext h122 h145 := by rw [e146]; exact Ext.push _ _
      have o153 : h.size ≤ b143 := by have := x130.size; omega
      have p154 := p127.keep fun b r _ q => x152 b r q
      have p155 := p128.keep fun b r _ q => x152 b r q
      have p156 := p129.keep fun b r _ q => x152 b r q
      have p157 := o135.keep fun b r _ q => x152 b r q
      have x158 := x130.trans x152
      obtain ⟨h159, e160⟩ : ∃ zq, zq = h145.setIfInBounds b143 (.cells #[(vS s139.d.name), (vI (s139.d.rt)), (vI (s139.d.dl)), (Value.slice w132 (s139.d.xs.length) (c133)), (vI (s139.st)), (vI (s139.ix)), (vB s139.cn), (vI (s139.tr)), (vI (s139.bg)), (vI (s139.er))] 38 (0, 0)) := ⟨_, rfl⟩
      have f161 := set_same e160 f147
      have p162 := p154.keep fun b r hb q => (Chg.set e160).same b r q (n148 b hb)
      have p163 := p155.keep fun b r hb q => (Chg.set e160).same b r q (n149 b hb)
      have p164 := p156.keep fun b r hb q => (Chg.set e160).same b r q (n150 b hb)
      have p165 := p157.keep fun b r hb q => (Chg.set e160).same b r q (n151 b hb)
      have x166 := Ext.setNew x158 e160 o153
      obtain ⟨b167, o168, q169, a170, k171, u172⟩ := p164.store zc_size g113
      have gv120 := get_ix i39 g113
      obtain ⟨_, h173, s174, rfl, x175, O8277, p176, o177⟩ := put_ok h159 p162 i103 (v110) s139 _ _ (OwnAt.lat p165 stepc_size (tsz_of size67)) (by omega)
      have k178 := WfT.put i103 (v110) s139
      have q179 := put_back i39 g113 f137
      rw [show i109 + 1 = (runM ([] : Tab) (zs30.take ka.toNat)).length - kb.toNat by omega] at q179
      have e180 : putE ((runM ([] : Tab) (zs30.take ka.toNat)).drop ((runM ([] : Tab) (zs30.take ka.toNat)).length - kb.toNat)) (v110) s139 = 0 := q179.1
      rw [e180] at s174
      have e181 : (putM ((runM ([] : Tab) (zs30.take ka.toNat)).drop ((runM ([] : Tab) (zs30.take ka.toNat)).length - kb.toNat)) (v110) s139) = ((runM ([] : Tab) (zs30.take ka.toNat)).drop ((runM ([] : Tab) (zs30.take ka.toNat)).length - (kb + 1).toNat)) := by rw [q179.2, show i109 = (runM ([] : Tab) (zs30.take ka.toNat)).length - (kb + 1).toNat by omega]
      rw [e181] at p176 k178
      have z182 : h.size ≤ h159.size := x166.size
      have x183 : Ext h _ := (Chg.then (O := fun _ => False) (Chg.ext x166) x175 (fun b hb => .inr (i102 b hb))).toExt'
      have p184 := p163.keep fun b r hb q => x175.same b r q ((fun b hb hb2 => i104 b hb2 hb) b hb)
      have p185 := p164.keep fun b r hb q => x175.same b r q ((fun b hb hb2 => p162.off p164 (by decide) (by decide) b hb2 hb) b hb)
      have z186 : h.size ≤ h159.size := x166.size
      have n187 : ∀ zz, O8277 zz → ¬ Oa zz := fun zz hz ez => by rcases o177 zz hz with g | g; (exact i104 _ g ez); have := p163.blk_lt ez; omega
      have o188 : ∀ zz, O8277 zz → h.size ≤ zz := fun zz hz => by rcases o177 zz hz with g | g; (exact i102 zz g); omega
      refine wc_ev [ltT 10 0 3 c108, evV 12 4 (vI ((((idsL (runM ([] : Tab) (zs30.take ka.toNat))).length : Nat)) - 1)) (show binA Tryz.prog .sub 3 (vI (((idsL (runM ([] : Tab) (zs30.take ka.toNat))).length : Nat))) (vI 1) = some (vI ((((idsL (runM ([] : Tab) (zs30.take ka.toNat))).length : Nat)) - 1)) from sub_i64 (by omega) (by omega)), evV 12 6 (vI (((((idsL (runM ([] : Tab) (zs30.take ka.toNat))).length : Nat)) - 1) - (kb))) (show binA Tryz.prog .sub 3 (vI ((((idsL (runM ([] : Tab) (zs30.take ka.toNat))).length : Nat)) - 1)) (vI kb) = some (vI (((((idsL (runM ([] : Tab) (zs30.take ka.toNat))).length : Nat)) - 1) - (kb))) from sub_i64 (by omega) (by omega)), evV 12 7 (vP b114 o115) (show indexAddrA Tryz.prog 63 (Value.slice w87 ((idsL (runM ([] : Tab) (zs30.take ka.toNat))).length) (c88)) (vI (((((idsL (runM ([] : Tab) (zs30.take ka.toNat))).length : Nat)) - 1) - (kb))) = some (vP b114 o115) from a117 und63 size3 e111), evV 12 8 (vI v110) (show loadT Tryz.prog h98 3 (vP b114 o115) = some (vI v110) from k118.cell (j := 0) agg3 rfl), evFe 12 9 p134 s123, evA 12 13 eb144 e146, evUw 12 14 size38 f147 e160, evV 13 7 (vI ((((idsL (runM ([] : Tab) (zs30.take ka.toNat))).length : Nat)) - 1)) (show binA Tryz.prog .sub 3 (vI (((idsL (runM ([] : Tab) (zs30.take ka.toNat))).length : Nat))) (vI 1) = some (vI ((((idsL (runM ([] : Tab) (zs30.take ka.toNat))).length : Nat)) - 1)) from sub_i64 (by omega) (by omega)), evV 13 9 (vI (((((idsL (runM ([] : Tab) (zs30.take ka.toNat))).length : Nat)) - 1) - (kb))) (show binA Tryz.prog .sub 3 (vI ((((idsL (runM ([] : Tab) (zs30.take ka.toNat))).length : Nat)) - 1)) (vI kb) = some (vI (((((idsL (runM ([] : Tab) (zs30.take ka.toNat))).length : Nat)) - 1) - (kb))) from sub_i64 (by omega) (by omega)), evV 13 10 (vP b167 o168) (show indexAddrA Tryz.prog 63 (Value.slice w87 ((idsL (runM ([] : Tab) (zs30.take ka.toNat))).length) (c88)) (vI (((((idsL (runM ([] : Tab) (zs30.take ka.toNat))).length : Nat)) - 1) - (kb))) = some (vP b167 o168) from a170 und63 size3 e111), evV 13 11 (vI v110) (show loadT Tryz.prog h159 3 (vP b167 o168) = some (vI v110) from k171.cell (j := 0) agg3 rfl), evLw 13 12 agg38 size38 f161, evF 13 13 s174, evV 15 0 (vI ((kb) + 1)) (show binA Tryz.prog .add 3 (vI kb) (vI 1) = some (vI ((kb) + 1)) from add_i64 (by omega) (by omega))] .normal h173 [(44, (vB true)), (45, (vI kb)), (11, (vI kb)), (47, (vP b4 0)), (48, (Value.slice w87 ((idsL (runM ([] : Tab) (zs30.take ka.toNat))).length) (c88))), (49, (Value.slice w87 ((idsL (runM ([] : Tab) (zs30.take ka.toNat))).length) (c88))), (50, (vI (((idsL (runM ([] : Tab) (zs30.take ka.toNat))).length : Nat)))), (51, (vI ((((idsL (runM ([] : Tab) (zs30.take ka.toNat))).length : Nat)) - 1))), (52, (vI kb)), (53, (vI (((((idsL (runM ([] : Tab) (zs30.take ka.toNat))).length : Nat)) - 1) - (kb)))), (54, (vP b114 o115)), (55, (vI v110)), (56, (vT #[(vA #[(vS s139.d.name), (vI s139.d.rt), (vI s139.d.dl), (vL w132 s139.d.xs.length c133), (vI s139.st), (vI s139.ix), (vB s139.cn), (vI s139.tr), (vI s139.bg), (vI s139.er)]), (vI 0)])), (46, (vT #[(vA #[(vS s139.d.name), (vI s139.d.rt), (vI s139.d.dl), (vL w132 s139.d.xs.length c133), (vI s139.st), (vI s139.ix), (vB s139.cn), (vI s139.tr), (vI s139.bg), (vI s139.er)]), (vI 0)])), (57, (vA #[(vS s139.d.name), (vI s139.d.rt), (vI s139.d.dl), (vL w132 s139.d.xs.length c133), (vI s139.st), (vI s139.ix), (vB s139.cn), (vI s139.tr), (vI s139.bg), (vI s139.er)])), (58, (vI 0)), (12, (vP b143 0)), (13, (vI 0)), (59, (vI 0)), (60, (vB false)), (61, (vB false)), (62, (vP b13 0)), (63, (Value.slice w87 ((idsL (runM ([] : Tab) (zs30.take ka.toNat))).length) (c88))), (64, (Value.slice w87 ((idsL (runM ([] : Tab) (zs30.take ka.toNat))).length) (c88))), (65, (vI (((idsL (runM ([] : Tab) (zs30.take ka.toNat))).length : Nat)))), (66, (vI ((((idsL (runM ([] : Tab) (zs30.take ka.toNat))).length : Nat)) - 1))), (67, (vI kb)), (68, (vI (((((idsL (runM ([] : Tab) (zs30.take ka.toNat))).length : Nat)) - 1) - (kb)))), (69, (vP b167 o168)), (70, (vI v110)), (71, (vA #[(vS s139.d.name), (vI s139.d.rt), (vI s139.d.dl), (vL w132 s139.d.xs.length c133), (vI s139.st), (vI s139.ix), (vB s139.cn), (vI s139.tr), (vI s139.bg), (vI s139.er)])), (72, (vI 0)), (73, (vB false)), (74, (vB false)), (75, (vI ((kb) + 1))), (43, (vI ((kb) + 1)))] ?_
      exact ⟨(idsL (runM ([] : Tab) (zs30.take ka.toNat))).length - (kb + 1).toNat, by omega, ⟨kb + 1, O8277, (fun i => ([vU, vU, vU, vU, (g1 4), vU, vU, vU, vU, vU, vU, (vI kb), (vP b143 0), (vI 0), vU, vU, vU, vU, vU, vU, vU, vU, vU, vU, vU, vU, vU, vU, vU, vU, vU, vU, vU, vU, vU, vU, vU, vU, vU, vU, vU, vU, vU, vU, (vB true), (vI kb), (vT #[(vA #[(vS s139.d.name), (vI s139.d.rt), (vI s139.d.dl), (vL w132 s139.d.xs.length c133), (vI s139.st), (vI s139.ix), (vB s139.cn), (vI s139.tr), (vI s139.bg), (vI s139.er)]), (vI 0)]), (vP b4 0), (Value.slice w87 ((idsL (runM ([] : Tab) (zs30.take ka.toNat))).length) (c88)), (Value.slice w87 ((idsL (runM ([] : Tab) (zs30.take ka.toNat))).length) (c88)), (vI (((idsL (runM ([] : Tab) (zs30.take ka.toNat))).length : Nat))), (vI ((((idsL (runM ([] : Tab) (zs30.take ka.toNat))).length : Nat)) - 1)), (vI kb), (vI (((((idsL (runM ([] : Tab) (zs30.take ka.toNat))).length : Nat)) - 1) - (kb))), (vP b114 o115), (vI v110), (vT #[(vA #[(vS s139.d.name), (vI s139.d.rt), (vI s139.d.dl), (vL w132 s139.d.xs.length c133), (vI s139.st), (vI s139.ix), (vB s139.cn), (vI s139.tr), (vI s139.bg), (vI s139.er)]), (vI 0)]), (vA #[(vS s139.d.name), (vI s139.d.rt), (vI s139.d.dl), (vL w132 s139.d.xs.length c133), (vI s139.st), (vI s139.ix), (vB s139.cn), (vI s139.tr), (vI s139.bg), (vI s139.er)]), (vI 0), (vI 0), (vB false), (vB false), (vP b13 0), (Value.slice w87 ((idsL (runM ([] : Tab) (zs30.take ka.toNat))).length) (c88)), (Value.slice w87 ((idsL (runM ([] : Tab) (zs30.take ka.toNat))).length) (c88)), (vI (((idsL (runM ([] : Tab) (zs30.take ka.toNat))).length : Nat))), (vI ((((idsL (runM ([] : Tab) (zs30.take ka.toNat))).length : Nat)) - 1)), (vI kb), (vI (((((idsL (runM ([] : Tab) (zs30.take ka.toNat))).length : Nat)) - 1) - (kb))), (vP b167 o168), (vI v110), (vA #[(vS s139.d.name), (vI s139.d.rt), (vI s139.d.dl), (vL w132 s139.d.xs.length c133), (vI s139.st), (vI s139.ix), (vB s139.cn), (vI s139.tr), (vI s139.bg), (vI s139.er)]), (vI 0), (vB false), (vB false), (vI ((kb) + 1))] : List Value).getD i undef), by as_aux_lemma => kernel_rfl, x183, rfl, by omega, o188, k178, n187, p176, p184, p185⟩⟩
    · refine wc_ev [ltF 10 0 3 c108] (.exit 2) h98 [(44, (vB false))] ?_
      refine wc_seq' (subc (bodyOf Tryz.prog 8) [1, 1, 1, 1, 1, 1, 0]) (subc (bodyOf Tryz.prog 8) [1, 1, 1, 1, 1, 1, 1]) (by kernel_rfl) ?_
      refine wc_seq' (subc (bodyOf Tryz.prog 8) [1, 1, 1, 1, 1, 1, 0, 0]) (subc (bodyOf Tryz.prog 8) [1, 1, 1, 1, 1, 1, 0, 1]) (by kernel_rfl) ?_
      obtain ⟨mn189, e190⟩ : ∃ q : Int, q = if (30 : Int) < ((more.length : Nat)) then (30 : Int) else ((more.length : Nat)) := ⟨_, rfl⟩
      have u191 : mn189 ≤ 30 ∧ mn189 ≤ ((more.length : Nat)) ∧ 0 ≤ mn189 ∧ (((more.length : Nat)) ≤ 30 → mn189 = ((more.length : Nat))) ∧ (30 ≤ ((more.length : Nat)) → mn189 = 30) := by rw [e190]; split <;> omega
      obtain ⟨sb192, cq193, e194, p195, b196⟩ := slice_prefix deedc_size und77 size81 (by decide) (hl2.slice deedc_size) (hl2.pl) (kd := .i64) (n := ((mn189) : Int)) (by omega) (by omega)
      obtain ⟨zs197, e198⟩ : ∃ zq, zq = more.take (((mn189) : Int)).toNat := ⟨_, rfl⟩
      rw [← e198] at e194 p195 b196
      have lzs199 : (zs197.length : Int) = ((mn189) : Int) := by rw [e198, List.length_take]; omega
      have szs200 : ∀ x ∈ zs197, DOk x := fun x hx => hq2 x (List.mem_of_mem_take (by rw [← e198]; exact hx))
      refine wc_ev [evV 16 3 (vI mn189) (show (vI mn189) = (vI (if (30 : Int) < ((more.length : Nat)) then (30 : Int) else ((more.length : Nat)))) from by rw [e190]), evV 16 4 (vL sb192 zs197.length cq193) (show sliceA Tryz.prog h98 77 (vL sb more.length cq) none (some (vI mn189)) none = some (vL sb192 zs197.length cq193) from sliceA_mono (x := _) x99 e194)] .normal h98 [(76, (vL sb more.length cq)), (77, (vL sb more.length cq)), (78, (vI ((more.length : Nat)))), (79, (vI mn189)), (80, (vL sb192 zs197.length cq193)), (81, (vI ((zs197.length : Nat)))), (82, (vI 0))] ?_
      refine wc_block' 4 (subc (bodyOf Tryz.prog 8) [1, 1, 1, 1, 1, 1, 0, 1, 0]) (by kernel_rfl) ?_
      refine wc_loop' (subc (bodyOf Tryz.prog 8) [1, 1, 1, 1, 1, 1, 0, 1, 0, 0]) (by kernel_rfl) (fun n' a' h' => ∃ (kc : Int) (Oc : Nat → Prop) (Od : Nat → Prop) (g2 : Nat → Value), a' = { tmps := #[(vL sa l.length cp), (vL sb more.length cq), vZ, vZ, (g2 4), (vP b4 0), (vP b13 0), (Value.func (.func 45) #[] #[]), vZ, (g0 9), (Value.slice w87 ((idsL (runM ([] : Tab) (zs30.take ka.toNat))).length) (c88)), (g1 11), (g1 12), (g1 13), vZ, (g2 15), vZ, vZ, vZ, vZ, vZ, vZ, (vP b4 0), (vP b13 0), (vL sa l.length cp), (vL sa l.length cp), (vI ((l.length : Nat))), (vI mn22), (vL sb25 zs30.length cq26), (vI ((zs30.length : Nat))), (vI ka), (vB false), (g0 32), (g0 33), (g0 34), (g0 35), (g0 36), (g0 37), (g0 38), (vP b4 0), (Value.slice w87 ((idsL (runM ([] : Tab) (zs30.take ka.toNat))).length) (c88)), (Value.slice w87 ((idsL (runM ([] : Tab) (zs30.take ka.toNat))).length) (c88)), (vI (((idsL (runM ([] : Tab) (zs30.take ka.toNat))).length : Nat))), (vI kb), (vB false), (g1 45), (g1 46), (g1 47), (g1 48), (g1 49), (g1 50), (g1 51), (g1 52), (g1 53), (g1 54), (g1 55), (g1 56), (g1 57), (g1 58), (g1 59), (g1 60), (g1 61), (g1 62), (g1 63), (g1 64), (g1 65), (g1 66), (g1 67), (g1 68), (g1 69), (g1 70), (g1 71), (g1 72), (g1 73), (g1 74), (g1 75), (vL sb more.length cq), (vL sb more.length cq), (vI ((more.length : Nat))), (vI mn189), (vL sb192 zs197.length cq193), (vI ((zs197.length : Nat))), (vI kc), (g2 83), (g2 84), (g2 85), (g2 86), (g2 87), (g2 88), (g2 89), (g2 90), (g2 91), (g2 92), (g2 93), (g2 94), (g2 95), (g2 96), (g2 97), (g2 98), (g2 99), (g2 100), (g2 101), (g2 102), (g2 103), (g2 104), (g2 105), (g2 106), (g2 107), (g2 108), (g2 109), (g2 110), (g2 111), vZ, vZ, vZ, vZ, vZ, vZ, vZ, vZ, vZ, vZ, vZ, vZ, vZ, vZ, vZ, vZ, vZ, vZ, vZ, vZ, vZ, vZ, vZ, vZ, vZ, vZ, vZ, vZ, vZ, vZ, vZ, vZ, vZ], defers := [] } ∧ Ext h h' ∧ n' = zs197.length - kc.toNat ∧ (0 ≤ kc ∧ kc ≤ (zs197.length : Nat)) ∧ (∀ zz, Oc zz → h.size ≤ zz) ∧ WfT (runM (runM ([] : Tab) (zs30.take ka.toNat)) (zs197.take kc.toNat)) ∧ (∀ zz, Od zz → h.size ≤ zz) ∧ WfT (runM (runM ([] : Tab) (zs30.take ka.toNat)) (zs197.take kc.toNat)) ∧ (∀ zz, Oc zz → ¬ Od zz) ∧ TbAt 57 h' Oc b4 (runM (runM ([] : Tab) (zs30.take ka.toNat)) (zs197.take kc.toNat)) ∧ TbAt 57 h' Od b13 (runM (runM ([] : Tab) (zs30.take ka.toNat)) (zs197.take kc.toNat)) ∧ OwnAt h' 3 zc (idsL (runM ([] : Tab) (zs30.take ka.toNat))) (Value.slice w87 ((idsL (runM ([] : Tab) (zs30.take ka.toNat))).length) (c88))) ?_ (zs197.length - (0 : Int).toNat) ⟨0, Oa, Ob, (fun i => ([vU, vU, vU, vU, (g1 4), vU, vU, vU, vU, vU, vU, vU, vU, vU, vU, vZ, vU, vU, vU, vU, vU, vU, vU, vU, vU, vU, vU, vU, vU, vU, vU, vU, vU, vU, vU, vU, vU, vU, vU, vU, vU, vU, vU, vU, vU, vU, vU, vU, vU, vU, vU, vU, vU, vU, vU, vU, vU, vU, vU, vU, vU, vU, vU, vU, vU, vU, vU, vU, vU, vU, vU, vU, vU, vU, vU, vU, vU, vU, vU, vU, vU, vU, vU, vZ, vZ, vZ, vZ, vZ, vZ, vZ, vZ, vZ, vZ, vZ, vZ, vZ, vZ, vZ, vZ, vZ, vZ, vZ, vZ, vZ, vZ, vZ, vZ, vZ, vZ, vZ, vZ, vZ] : List Value).getD i undef), by as_aux_lemma => kernel_rfl, x99, rfl, by omega, i38, (by have q9 := i39; rw [(show (runM ([] : Tab) (zs30.take ka.toNat)) = (runM (runM ([] : Tab) (zs30.take ka.toNat)) (zs197.take (0 : Int).toNat)) from rfl)] at q9; exact q9), i102, (by have q9 := i103; rw [(show ((runM ([] : Tab) (zs30.take ka.toNat)).drop ((runM ([] : Tab) (zs30.take ka.toNat)).length - kb.toNat)) = (runM (runM ([] : Tab) (zs30.take ka.toNat)) (zs197.take (0 : Int).toNat)) from by rw [show (runM ([] : Tab) (zs30.take ka.toNat)).length - kb.toNat = 0 by omega]; rfl)] at q9; exact q9), (fun zz hz hz2 => i104 zz hz2 hz), (by have q9 := p106; rw [(show (runM ([] : Tab) (zs30.take ka.toNat)) = (runM (runM ([] : Tab) (zs30.take ka.toNat)) (zs197.take (0 : Int).toNat)) from rfl)] at q9; exact q9), (by have q9 := p105; rw [(show ((runM ([] : Tab) (zs30.take ka.toNat)).drop ((runM ([] : Tab) (zs30.take ka.toNat)).length - kb.toNat)) = (runM (runM ([] : Tab) (zs30.take ka.toNat)) (zs197.take (0 : Int).toNat)) from by rw [show (runM ([] : Tab) (zs30.take ka.toNat)).length - kb.toNat = 0 by omega]; rfl)] at q9; exact q9), p107⟩
      rintro n' _ h201 ⟨kc, Oc, Od, g2, rfl, x202, m203, i204, i205, i206, i207, i208, i209, p210, p211, p212⟩
      by_cases c213 : ((kc) : Int) < ((zs197.length : Nat))
      · obtain ⟨i214, v215, e216, l217, g218⟩ := list_at zs197 (e := (kc)) (by omega) (by first | omega | (simp only [List.length_set, List.length_append, List.length_singleton]; omega))
        obtain ⟨b219, o220, k221, q222, a223⟩ := p195.at deedc_size g218
        have t224 := szs200 _ (List.mem_of_getElem? g218)
        have t224' := t224
        unfold DOk at t224'
        obtain ⟨b225, eb226⟩ : ∃ zq, zq = h201.size := ⟨_, rfl⟩
        obtain ⟨h227, e228⟩ : ∃ zq, zq = h201.push (.cells #[(Value.int .u8 0), (Value.int .u8 0), (Value.int .u8 0), (Value.int .u8 0)] 81 (0, 0)) := ⟨_, rfl⟩
        have f229 := push_new e228
        rw [← eb226] at f229
        have n230 : ∀ zz, Oc zz → ¬ zz = b225 := fun zz hz ez => by have := p210.blk_lt hz; omega
        have n231 : ∀ zz, Od zz → ¬ zz = b225 := fun zz hz ez => by have := p211.blk_lt hz; omega
        have n232 : ∀ zz, (blk (Value.slice w87 ((idsL (runM ([] : Tab) (zs30.take ka.toNat))).length) (c88))) zz → ¬ zz = b225 := fun zz hz ez => by have := p212.blk_lt hz; omega
        have x233 : Ext h201 h227 := by rw [e228]; exact Ext.push _ _
        have o234 : h.size ≤ b225 := by have := x202.size; omega
        have p235 := p210.keep fun b r _ q => x233 b r q
        have p236 := p211.keep fun b r _ q => x233 b r q
        have p237 := p212.keep fun b r _ q => x233 b r q
        have x238 := x202.trans x233
        obtain ⟨h239, e240⟩ : ∃ zq, zq = h227.setIfInBounds b225 (.cells #[(Value.int .u8 (v215.kd)), (Value.int .u8 (v215.id)), (Value.int .u8 (v215.rs)), (Value.int .u8 (v215.nw))] 81 (0, 0)) := ⟨_, rfl⟩
        have f241 := set_same e240 f229
        have p242 := p235.keep fun b r hb q => (Chg.set e240).same b r q (n230 b hb)
        have p243 := p236.keep fun b r hb q => (Chg.set e240).same b r q (n231 b hb)
        have p244 := p237.keep fun b r hb q => (Chg.set e240).same b r q (n232 b hb)
        have x245 := Ext.setNew x238 e240 o234
        obtain ⟨_, h246, s247, rfl, x248, O8363, p249, o250⟩ := deed_ok h239 p242 i206 v215 t224 (x245 _ _ hg0) (x245 _ _ hg1)
        have k251 := WfT.deed i206 v215
        have z252 : h.size ≤ h239.size := x245.size
        have x253 : Ext h _ := (Chg.then (O := fun _ => False) (Chg.ext x245) x248 (fun b hb => .inr (i205 b hb))).toExt'
        have f254 := x248.same _ _ f241 (fun hb => n230 _ hb rfl)
        have p255 := p243.keep fun b r hb q => x248.same b r q ((fun b hb hb2 => i209 b hb2 hb) b hb)
        have p256 := p244.keep fun b r hb q => x248.same b r q ((fun b hb hb2 => p242.off p244 (by decide) (by decide) b hb2 hb) b hb)
        have z257 : h.size ≤ h239.size := x245.size
        have n258 : ∀ zz, O8363 zz → ¬ Od zz := fun zz hz ez => by rcases o250 zz hz with g | g; (exact i209 _ g ez); have := p243.blk_lt ez; omega
        have o259 : ∀ zz, O8363 zz → h.size ≤ zz := fun zz hz => by rcases o250 zz hz with g | g; (exact i205 zz g); omega
        obtain ⟨_, h260, s261, rfl, x262, O8379, p263, o264⟩ := deed_ok h246 p255 i208 v215 t224 (x253 _ _ hg0) (x253 _ _ hg1)
        have k265 := WfT.deed i208 v215
        have z266 : h.size ≤ h246.size := x253.size
        have x267 : Ext h _ := (Chg.then (O := fun _ => False) (Chg.ext x253) x262 (fun b hb => .inr (i207 b hb))).toExt'
        have p268 := p249.keep fun b r hb q => x262.same b r q (n258 b hb)
        have p269 := p256.keep fun b r hb q => x262.same b r q ((fun b hb hb2 => p255.off p256 (by decide) (by decide) b hb2 hb) b hb)
        have z270 : h.size ≤ h246.size := x253.size
        have n271 : ∀ zz, O8379 zz → ¬ O8363 zz := fun zz hz ez => by rcases o264 zz hz with g | g; (exact n258 _ ez g); have := p249.blk_lt ez; omega
        have o272 : ∀ zz, O8379 zz → h.size ≤ zz := fun zz hz => by rcases o264 zz hz with g | g; (exact i207 zz g); omega
        obtain ⟨_, h273, s274, w275, c276, rfl, o277, x278, n279⟩ := tnext_ok h260 p268 k251 (x267 _ _ hg0) (x267 _ _ hg1)
        have z280 : (nxtL (doM (runM (runM ([] : Tab) (zs30.take ka.toNat)) (zs197.take kc.toNat)) v215)).length ≤ 64 := Nat.le_trans (nxtL_len _) (k251).few
        have p281 := p268.keep fun b r _ q => x278 b r q
        have p282 := p263.keep fun b r _ q => x278 b r q
        have p283 := p269.keep fun b r _ q => x278 b r q
        have x284 := x267.trans x278
        have z285 : h.size ≤ h260.size := x267.size
        have o286 : ∀ zz, blk (Value.slice w275 ((nxtL (doM (runM (runM ([] : Tab) (zs30.take ka.toNat)) (zs197.take kc.toNat)) v215)).length) (c276)) zz → h.size ≤ zz := fun zz hz => by have := n279 zz hz; omega
        obtain ⟨_, h287, s288, w289, c290, rfl, o291, x292, n293⟩ := tnext_ok h273 p282 k265 (x284 _ _ hg0) (x284 _ _ hg1)
        have z294 : (nxtL (doM (runM (runM ([] : Tab) (zs30.take ka.toNat)) (zs197.take kc.toNat)) v215)).length ≤ 64 := Nat.le_trans (nxtL_len _) (k265).few
        have p295 := p281.keep fun b r _ q => x292 b r q
        have p296 := p282.keep fun b r _ q => x292 b r q
        have p297 := p283.keep fun b r _ q => x292 b r q
        have p298 := o277.keep fun b r _ q => x292 b r q
        have x299 := x284.trans x292
        have z300 : h.size ≤ h273.size := x284.size
        have o301 : ∀ zz, blk (Value.slice w289 ((nxtL (doM (runM (runM ([] : Tab) (zs30.take ka.toNat)) (zs197.take kc.toNat)) v215)).length) (c290)) zz → h.size ≤ zz := fun zz hz => by have := n293 zz hz; omega
        obtain ⟨_, _, s302, rfl, rfl⟩ := eqE_ok h287 (nxtL (doM (runM (runM ([] : Tab) (zs30.take ka.toNat)) (zs197.take kc.toNat)) v215)) (nxtL (doM (runM (runM ([] : Tab) (zs30.take ka.toNat)) (zs197.take kc.toNat)) v215)) _ _ _ _ (p298.slice effc_size) (o291.slice effc_size) (by omega)
        obtain ⟨_, h303, s304, w305, c306, rfl, o307, x308, n309⟩ := ids_ok h287 p295 k251
        have z310 : (idsL (doM (runM (runM ([] : Tab) (zs30.take ka.toNat)) (zs197.take kc.toNat)) v215)).length ≤ 64 := Nat.le_trans (Nat.le_of_eq (idsL_len _)) (k251).few
        have p311 := p295.keep fun b r _ q => x308 b r q
        have p312 := p296.keep fun b r _ q => x308 b r q
        have p313 := p297.keep fun b r _ q => x308 b r q
        have x314 := x299.trans x308
        have z315 : h.size ≤ h287.size := x299.size
        have o316 : ∀ zz, blk (Value.slice w305 ((idsL (doM (runM (runM ([] : Tab) (zs30.take ka.toNat)) (zs197.take kc.toNat)) v215)).length) (c306)) zz → h.size ≤ zz := fun zz hz => by have := n309 zz hz; omega
        obtain ⟨_, h317, s318, w319, c320, rfl, o321, x322, n323⟩ := ids_ok h303 p312 k265
        have z324 : (idsL (doM (runM (runM ([] : Tab) (zs30.take ka.toNat)) (zs197.take kc.toNat)) v215)).length ≤ 64 := Nat.le_trans (Nat.le_of_eq (idsL_len _)) (k265).few
        have p325 := p311.keep fun b r _ q => x322 b r q
        have p326 := p312.keep fun b r _ q => x322 b r q
        have p327 := p313.keep fun b r _ q => x322 b r q
        have p328 := o307.keep fun b r _ q => x322 b r q
        have x329 := x314.trans x322
        have z330 : h.size ≤ h303.size := x314.size
        have o331 : ∀ zz, blk (Value.slice w319 ((idsL (doM (runM (runM ([] : Tab) (zs30.take ka.toNat)) (zs197.take kc.toNat)) v215)).length) (c320)) zz → h.size ≤ zz := fun zz hz => by have := n323 zz hz; omega
        obtain ⟨_, _, s332, rfl, rfl⟩ := eqI_ok h317 (idsL (doM (runM (runM ([] : Tab) (zs30.take ka.toNat)) (zs197.take kc.toNat)) v215)) (idsL (doM (runM (runM ([] : Tab) (zs30.take ka.toNat)) (zs197.take kc.toNat)) v215)) _ _ _ _ (p328.slice zc_size) (o321.slice zc_size) (by omega)
        refine wc_ev [ltT 17 0 3 c213, evV 18 0 (vP b219 o220) (show indexAddrA Tryz.prog 77 (vL sb192 zs197.length cq193) (vI kc) = some (vP b219 o220) from a223 und77 size81 e216), evV 18 1 (vA #[(Value.int .u8 (v215.kd)), (Value.int .u8 (v215.id)), (Value.int .u8 (v215.rs)), (Value.int .u8 (v215.nw))]) (show loadT Tryz.prog h201 81 (vP b219 o220) = some (vA #[(Value.int .u8 (v215.kd)), (Value.int .u8 (v215.id)), (Value.int .u8 (v215.rs)), (Value.int .u8 (v215.nw))]) from (k221.keep fun b r _ q => x202 b r q).agg (j := 0) agg81 size81 (show 0 + 4 ≤ 4 by decide) (by kernel_rfl)), evA 18 2 eb226 e228, evUw 18 3 size81 f229 e240, evLw 19 2 agg81 size81 f241, evLw 19 6 agg81 size81 f241, evF 19 3 s247, evLw 99 0 agg81 size81 f254, evF 19 7 s261, neF 19 8 34 (Eq.refl ((doE (runM (runM ([] : Tab) (zs30.take ka.toNat)) (zs197.take kc.toNat)) v215) : Int)), evF 19 11 s274, evF 19 13 s288, evFt 19 14 (Eq.refl _) s302, evF 19 19 s304, evF 19 21 s318, evFt 19 22 (Eq.refl _) s332, evV 21 0 (vI ((kc) + 1)) (show binA Tryz.prog .add 3 (vI kc) (vI 1) = some (vI ((kc) + 1)) from add_i64 (by omega) (by omega))] .normal h317 [(83, (vB true)), (84, (vP b219 o220)), (85, (vA #[(Value.int .u8 (v215.kd)), (Value.int .u8 (v215.id)), (Value.int .u8 (v215.rs)), (Value.int .u8 (v215.nw))])), (15, (vP b225 0)), (86, (Value.func (.func 45) #[] #[])), (87, (vP b4 0)), (88, (vA #[(Value.int .u8 (v215.kd)), (Value.int .u8 (v215.id)), (Value.int .u8 (v215.rs)), (Value.int .u8 (v215.nw))])), (90, (Value.func (.func 45) #[] #[])), (91, (vP b13 0)), (92, (vA #[(Value.int .u8 (v215.kd)), (Value.int .u8 (v215.id)), (Value.int .u8 (v215.rs)), (Value.int .u8 (v215.nw))])), (89, (vI (doE (runM (runM ([] : Tab) (zs30.take ka.toNat)) (zs197.take kc.toNat)) v215))), (93, (vI (doE (runM (runM ([] : Tab) (zs30.take ka.toNat)) (zs197.take kc.toNat)) v215))), (94, (vB false)), (95, (vB false)), (96, (vP b4 0)), (98, (vP b13 0)), (97, (Value.slice w275 ((nxtL (doM (runM (runM ([] : Tab) (zs30.take ka.toNat)) (zs197.take kc.toNat)) v215)).length) (c276))), (99, (Value.slice w289 ((nxtL (doM (runM (runM ([] : Tab) (zs30.take ka.toNat)) (zs197.take kc.toNat)) v215)).length) (c290))), (100, (vB true)), (101, (vB false)), (102, (vB false)), (103, (vB false)), (104, (vP b4 0)), (106, (vP b13 0)), (105, (Value.slice w305 ((idsL (doM (runM (runM ([] : Tab) (zs30.take ka.toNat)) (zs197.take kc.toNat)) v215)).length) (c306))), (107, (Value.slice w319 ((idsL (doM (runM (runM ([] : Tab) (zs30.take ka.toNat)) (zs197.take kc.toNat)) v215)).length) (c320))), (108, (vB true)), (109, (vB false)), (110, (vB false)), (111, (vI ((kc) + 1))), (82, (vI ((kc) + 1)))] ?_
        exact ⟨zs197.length - (kc + 1).toNat, by omega, ⟨kc + 1, O8363, O8379, (fun i => ([vU, vU, vU, vU, (g2 4), vU, vU, vU, vU, vU, vU, vU, vU, vU, vU, (vP b225 0), vU, vU, vU, vU, vU, vU, vU, vU, vU, vU, vU, vU, vU, vU, vU, vU, vU, vU, vU, vU, vU, vU, vU, vU, vU, vU, vU, vU, vU, vU, vU, vU, vU, vU, vU, vU, vU, vU, vU, vU, vU, vU, vU, vU, vU, vU, vU, vU, vU, vU, vU, vU, vU, vU, vU, vU, vU, vU, vU, vU, vU, vU, vU, vU, vU, vU, vU, (vB true), (vP b219 o220), (vA #[(Value.int .u8 (v215.kd)), (Value.int .u8 (v215.id)), (Value.int .u8 (v215.rs)), (Value.int .u8 (v215.nw))]), (Value.func (.func 45) #[] #[]), (vP b4 0), (vA #[(Value.int .u8 (v215.kd)), (Value.int .u8 (v215.id)), (Value.int .u8 (v215.rs)), (Value.int .u8 (v215.nw))]), (vI (doE (runM (runM ([] : Tab) (zs30.take ka.toNat)) (zs197.take kc.toNat)) v215)), (Value.func (.func 45) #[] #[]), (vP b13 0), (vA #[(Value.int .u8 (v215.kd)), (Value.int .u8 (v215.id)), (Value.int .u8 (v215.rs)), (Value.int .u8 (v215.nw))]), (vI (doE (runM (runM ([] : Tab) (zs30.take ka.toNat)) (zs197.take kc.toNat)) v215)), (vB false), (vB false), (vP b4 0), (Value.slice w275 ((nxtL (doM (runM (runM ([] : Tab) (zs30.take ka.toNat)) (zs197.take kc.toNat)) v215)).length) (c276)), (vP b13 0), (Value.slice w289 ((nxtL (doM (runM (runM ([] : Tab) (zs30.take ka.toNat)) (zs197.take kc.toNat)) v215)).length) (c290)), (vB true), (vB false), (vB false), (vB false), (vP b4 0), (Value.slice w305 ((idsL (doM (runM (runM ([] : Tab) (zs30.take ka.toNat)) (zs197.take kc.toNat)) v215)).length) (c306)), (vP b13 0), (Value.slice w319 ((idsL (doM (runM (runM ([] : Tab) (zs30.take ka.toNat)) (zs197.take kc.toNat)) v215)).length) (c320)), (vB true), (vB false), (vB false), (vI ((kc) + 1))] : List Value).getD i undef), by as_aux_lemma => kernel_rfl, x329, rfl, by omega, o259, (by have q9 := k251; rw [(show doM (runM (runM ([] : Tab) (zs30.take ka.toNat)) (zs197.take kc.toNat)) v215 = (runM (runM ([] : Tab) (zs30.take ka.toNat)) (zs197.take (kc + 1).toNat)) from by rw [show (kc + 1).toNat = i214 + 1 by omega, runM_next g218, show i214 = kc.toNat by omega])] at q9; exact q9), o272, (by have q9 := k265; rw [(show doM (runM (runM ([] : Tab) (zs30.take ka.toNat)) (zs197.take kc.toNat)) v215 = (runM (runM ([] : Tab) (zs30.take ka.toNat)) (zs197.take (kc + 1).toNat)) from by rw [show (kc + 1).toNat = i214 + 1 by omega, runM_next g218, show i214 = kc.toNat by omega])] at q9; exact q9), (fun zz hz hz2 => n271 zz hz2 hz), (by have q9 := p325; rw [(show doM (runM (runM ([] : Tab) (zs30.take ka.toNat)) (zs197.take kc.toNat)) v215 = (runM (runM ([] : Tab) (zs30.take ka.toNat)) (zs197.take (kc + 1).toNat)) from by rw [show (kc + 1).toNat = i214 + 1 by omega, runM_next g218, show i214 = kc.toNat by omega])] at q9; exact q9), (by have q9 := p326; rw [(show doM (runM (runM ([] : Tab) (zs30.take ka.toNat)) (zs197.take kc.toNat)) v215 = (runM (runM ([] : Tab) (zs30.take ka.toNat)) (zs197.take (kc + 1).toNat)) from by rw [show (kc + 1).toNat = i214 + 1 by omega, runM_next g218, show i214 = kc.toNat by omega])] at q9; exact q9), p327⟩⟩
      · refine wc_ev [ltF 17 0 3 c213] (.exit 4) h201 [(83, (vB false))] ?_
        refine wc_seq' (subc (bodyOf Tryz.prog 8) [1, 1, 1, 1, 1, 1, 1, 0]) (subc (bodyOf Tryz.prog 8) [1, 1, 1, 1, 1, 1, 1, 1]) (by kernel_rfl) ?_
        refine wc_seq' (subc (bodyOf Tryz.prog 8) [1, 1, 1, 1, 1, 1, 1, 0, 0]) (subc (bodyOf Tryz.prog 8) [1, 1, 1, 1, 1, 1, 1, 0, 1]) (by kernel_rfl) ?_
        obtain ⟨_, h333, s334, w335, c336, rfl, o337, x338, n339⟩ := ids_ok h201 p210 i206
        have z340 : (idsL (runM (runM ([] : Tab) (zs30.take ka.toNat)) (zs197.take kc.toNat))).length ≤ 64 := Nat.le_trans (Nat.le_of_eq (idsL_len _)) (i206).few
        have p341 := p210.keep fun b r _ q => x338 b r q
        have p342 := p211.keep fun b r _ q => x338 b r q
        have p343 := p212.keep fun b r _ q => x338 b r q
        have x344 := x202.trans x338
        have z345 : h.size ≤ h201.size := x202.size
        have o346 : ∀ zz, blk (Value.slice w335 ((idsL (runM (runM ([] : Tab) (zs30.take ka.toNat)) (zs197.take kc.toNat))).length) (c336)) zz → h.size ≤ zz := fun zz hz => by have := n339 zz hz; omega
        refine wc_ev [evF 22 1 s334] .normal h333 [(112, (vP b4 0)), (113, (Value.slice w335 ((idsL (runM (runM ([] : Tab) (zs30.take ka.toNat)) (zs197.take kc.toNat))).length) (c336))), (114, (vI (((idsL (runM (runM ([] : Tab) (zs30.take ka.toNat)) (zs197.take kc.toNat))).length : Nat)))), (115, (vI 0))] ?_
        refine wc_block' 6 (subc (bodyOf Tryz.prog 8) [1, 1, 1, 1, 1, 1, 1, 0, 1, 0]) (by kernel_rfl) ?_
        refine wc_loop' (subc (bodyOf Tryz.prog 8) [1, 1, 1, 1, 1, 1, 1, 0, 1, 0, 0]) (by kernel_rfl) (fun n' a' h' => ∃ (kd : Int) (g3 : Nat → Value), a' = { tmps := #[(vL sa l.length cp), (vL sb more.length cq), vZ, vZ, (g3 4), (vP b4 0), (vP b13 0), (Value.func (.func 45) #[] #[]), vZ, (g0 9), (Value.slice w87 ((idsL (runM ([] : Tab) (zs30.take ka.toNat))).length) (c88)), (g1 11), (g1 12), (g1 13), vZ, (g2 15), vZ, (g3 17), (g3 18), (g3 19), (g3 20), (g3 21), (vP b4 0), (vP b13 0), (vL sa l.length cp), (vL sa l.length cp), (vI ((l.length : Nat))), (vI mn22), (vL sb25 zs30.length cq26), (vI ((zs30.length : Nat))), (vI ka), (vB false), (g0 32), (g0 33), (g0 34), (g0 35), (g0 36), (g0 37), (g0 38), (vP b4 0), (Value.slice w87 ((idsL (runM ([] : Tab) (zs30.take ka.toNat))).length) (c88)), (Value.slice w87 ((idsL (runM ([] : Tab) (zs30.take ka.toNat))).length) (c88)), (vI (((idsL (runM ([] : Tab) (zs30.take ka.toNat))).length : Nat))), (vI kb), (vB false), (g1 45), (g1 46), (g1 47), (g1 48), (g1 49), (g1 50), (g1 51), (g1 52), (g1 53), (g1 54), (g1 55), (g1 56), (g1 57), (g1 58), (g1 59), (g1 60), (g1 61), (g1 62), (g1 63), (g1 64), (g1 65), (g1 66), (g1 67), (g1 68), (g1 69), (g1 70), (g1 71), (g1 72), (g1 73), (g1 74), (g1 75), (vL sb more.length cq), (vL sb more.length cq), (vI ((more.length : Nat))), (vI mn189), (vL sb192 zs197.length cq193), (vI ((zs197.length : Nat))), (vI kc), (vB false), (g2 84), (g2 85), (g2 86), (g2 87), (g2 88), (g2 89), (g2 90), (g2 91), (g2 92), (g2 93), (g2 94), (g2 95), (g2 96), (g2 97), (g2 98), (g2 99), (g2 100), (g2 101), (g2 102), (g2 103), (g2 104), (g2 105), (g2 106), (g2 107), (g2 108), (g2 109), (g2 110), (g2 111), (vP b4 0), (Value.slice w335 ((idsL (runM (runM ([] : Tab) (zs30.take ka.toNat)) (zs197.take kc.toNat))).length) (c336)), (vI (((idsL (runM (runM ([] : Tab) (zs30.take ka.toNat)) (zs197.take kc.toNat))).length : Nat))), (vI kd), (g3 116), (g3 117), (g3 118), (g3 119), (g3 120), (g3 121), (g3 122), (g3 123), (g3 124), (g3 125), (g3 126), (g3 127), (g3 128), (g3 129), (g3 130), (g3 131), (g3 132), (g3 133), (g3 134), (g3 135), (g3 136), (g3 137), (g3 138), (g3 139), (g3 140), (g3 141), (g3 142), (g3 143), vZ], defers := [] } ∧ Ext h h' ∧ n' = (idsL (runM (runM ([] : Tab) (zs30.take ka.toNat)) (zs197.take kc.toNat))).length - kd.toNat ∧ (0 ≤ kd ∧ kd ≤ ((idsL (runM (runM ([] : Tab) (zs30.take ka.toNat)) (zs197.take kc.toNat))).length : Nat)) ∧ TbAt 57 h' Oc b4 (runM (runM ([] : Tab) (zs30.take ka.toNat)) (zs197.take kc.toNat)) ∧ TbAt 57 h' Od b13 (runM (runM ([] : Tab) (zs30.take ka.toNat)) (zs197.take kc.toNat)) ∧ OwnAt h' 3 zc (idsL (runM ([] : Tab) (zs30.take ka.toNat))) (Value.slice w87 ((idsL (runM ([] : Tab) (zs30.take ka.toNat))).length) (c88)) ∧ OwnAt h' 3 zc (idsL (runM (runM ([] : Tab) (zs30.take ka.toNat)) (zs197.take kc.toNat))) (Value.slice w335 ((idsL (runM (runM ([] : Tab) (zs30.take ka.toNat)) (zs197.take kc.toNat))).length) (c336))) ?_ ((idsL (runM (runM ([] : Tab) (zs30.take ka.toNat)) (zs197.take kc.toNat))).length - (0 : Int).toNat) ⟨0, (fun i => ([vU, vU, vU, vU, (g2 4), vU, vU, vU, vU, vU, vU, vU, vU, vU, vU, vU, vU, vZ, vZ, vZ, vZ, vZ, vU, vU, vU, vU, vU, vU, vU, vU, vU, vU, vU, vU, vU, vU, vU, vU, vU, vU, vU, vU, vU, vU, vU, vU, vU, vU, vU, vU, vU, vU, vU, vU, vU, vU, vU, vU, vU, vU, vU, vU, vU, vU, vU, vU, vU, vU, vU, vU, vU, vU, vU, vU, vU, vU, vU, vU, vU, vU, vU, vU, vU, vU, vU, vU, vU, vU, vU, vU, vU, vU, vU, vU, vU, vU, vU, vU, vU, vU, vU, vU, vU, vU, vU, vU, vU, vU, vU, vU, vU, vU, vU, vU, vU, vU, vZ, vZ, vZ, vZ, vZ, vZ, vZ, vZ, vZ, vZ, vZ, vZ, vZ, vZ, vZ, vZ, vZ, vZ, vZ, vZ, vZ, vZ, vZ, vZ, vZ, vZ, vZ, vZ] : List Value).getD i undef), by as_aux_lemma => kernel_rfl, x344, rfl, by omega, p341, p342, p343, o337⟩
        rintro n' _ h347 ⟨kd, g3, rfl, x348, m349, i350, p351, p352, p353, p354⟩
        by_cases c355 : ((kd) : Int) < (((idsL (runM (runM ([] : Tab) (zs30.take ka.toNat)) (zs197.take kc.toNat))).length : Nat))
        · obtain ⟨i356, v357, e358, l359, g360⟩ := list_at (idsL (runM (runM ([] : Tab) (zs30.take ka.toNat)) (zs197.take kc.toNat))) (e := (kd)) (by omega) (by first | omega | (simp only [List.length_set, List.length_append, List.length_singleton]; omega))
          obtain ⟨b361, o362, q363, a364, k365, u366⟩ := p354.store zc_size g360
          have gv367 := get_ix i206 g360
          obtain ⟨v368, h369, s370, p371, p372, x373⟩ := tget_ok h347 p351 i206 (v357)
          have p374 := p351.keep fun b r _ q => x373 b r q
          have p375 := p352.keep fun b r _ q => x373 b r q
          have p376 := p353.keep fun b r _ q => x373 b r q
          have p377 := p354.keep fun b r _ q => x373 b r q
          have x378 := x348.trans x373
          have c379 : getE (runM (runM ([] : Tab) (zs30.take ka.toNat)) (zs197.take kc.toNat)) (v357) = 0 := gv367
          obtain ⟨w380, c381, p382, o383, n384⟩ := p372 c379
          have f385 := getE_zero c379
          have c386 := ((i206).at f385).1
          obtain ⟨s387, e388⟩ : ∃ q, q = (getS (runM (runM ([] : Tab) (zs30.take ka.toNat)) (zs197.take kc.toNat)) (v357)) := ⟨_, rfl⟩
          rw [← e388] at p382 o383 n384 c386 f385
          have := defB_of (chkS_zero c386).1
          have z389 : h.size ≤ h347.size := x348.size
          have o390 : ∀ zz, blk (Value.slice w380 (s387.d.xs.length) (c381)) zz → h.size ≤ zz := fun zz hz => by have := n384 zz hz; omega
          obtain ⟨b391, eb392⟩ : ∃ zq, zq = h369.size := ⟨_, rfl⟩
          obtain ⟨h393, e394⟩ : ∃ zq, zq = h369.push (.cells #[(vS .empty), (vI 0), (vI 0), (Value.slice none 0 0), (vI 0), (vI 0), (vB false), (vI 0), (vI 0), (vI 0)] 38 (0, 0)) := ⟨_, rfl⟩
          have f395 := push_new e394
          rw [← eb392] at f395
          have n396 : ∀ zz, Oc zz → ¬ zz = b391 := fun zz hz ez => by have := p374.blk_lt hz; omega
          have n397 : ∀ zz, Od zz → ¬ zz = b391 := fun zz hz ez => by have := p375.blk_lt hz; omega
          have n398 : ∀ zz, (blk (Value.slice w87 ((idsL (runM ([] : Tab) (zs30.take ka.toNat))).length) (c88))) zz → ¬ zz = b391 := fun zz hz ez => by have := p376.blk_lt hz; omega
          have n399 : ∀ zz, (blk (Value.slice w335 ((idsL (runM (runM ([] : Tab) (zs30.take ka.toNat)) (zs197.take kc.toNat))).length) (c336))) zz → ¬ zz = b391 := fun zz hz ez => by have := p377.blk_lt hz; omega
          have n400 : ∀ zz, (blk (Value.slice w380 (s387.d.xs.length) (c381))) zz → ¬ zz = b391 := fun zz hz ez => by have := o383.blk_lt hz; omega
          have x401 : Ext h369 h393 := by rw [e394]; exact Ext.push _ _
          have o402 : h.size ≤ b391 := by have := x378.size; omega
          have p403 := p374.keep fun b r _ q => x401 b r q
          have p404 := p375.keep fun b r _ q => x401 b r q
          have p405 := p376.keep fun b r _ q => x401 b r q
          have p406 := p377.keep fun b r _ q => x401 b r q
          have p407 := o383.keep fun b r _ q => x401 b r q
          have x408 := x378.trans x401
          obtain ⟨h409, e410⟩ : ∃ zq, zq = h393.setIfInBounds b391 (.cells #[(vS s387.d.name), (vI (s387.d.rt)), (vI (s387.d.dl)), (Value.slice w380 (s387.d.xs.length) (c381)), (vI (s387.st)), (vI (s387.ix)), (vB s387.cn), (vI (s387.tr)), (vI (s387.bg)), (vI (s387.er))] 38 (0, 0)) := ⟨_, rfl⟩
          have f411 := set_same e410 f395
          have p412 := p403.keep fun b r hb q => (Chg.set e410).same b r q (n396 b hb)
          have p413 := p404.keep fun b r hb q => (Chg.set e410).same b r q (n397 b hb)
          have p414 := p405.keep fun b r hb q => (Chg.set e410).same b r q (n398 b hb)
          have p415 := p406.keep fun b r hb q => (Chg.set e410).same b r q (n399 b hb)
          have p416 := p407.keep fun b r hb q => (Chg.set e410).same b r q (n400 b hb)
          have x417 := Ext.setNew x408 e410 o402
          obtain ⟨v418, h419, s420, p421, p422, x423⟩ := tget_ok h409 p413 i208 (v357)
          have f424 := x423 _ _ f411
          have p425 := p412.keep fun b r _ q => x423 b r q
          have p426 := p413.keep fun b r _ q => x423 b r q
          have p427 := p414.keep fun b r _ q => x423 b r q
          have p428 := p415.keep fun b r _ q => x423 b r q
          have p429 := p416.keep fun b r _ q => x423 b r q
          have x430 := x417.trans x423
          have c431 : getE (runM (runM ([] : Tab) (zs30.take ka.toNat)) (zs197.take kc.toNat)) (v357) = 0 := c379
          obtain ⟨w432, c433, p434, o435, n436⟩ := p422 c431
          have f437 := getE_zero c431
          have c438 := ((i208).at f437).1
          have e439 : (getS (runM (runM ([] : Tab) (zs30.take ka.toNat)) (zs197.take kc.toNat)) (v357)) = s387 := e388.symm
          rw [e439] at p434 o435 n436 c438 f437
          have z440 : h.size ≤ h409.size := x417.size
          have o441 : ∀ zz, blk (Value.slice w432 (s387.d.xs.length) (c433)) zz → h.size ≤ zz := fun zz hz => by have := n436 zz hz; omega
          obtain ⟨b442, eb443⟩ : ∃ zq, zq = h419.size := ⟨_, rfl⟩
          obtain ⟨h444, e445⟩ : ∃ zq, zq = h419.push (.cells #[(vS .empty), (vI 0), (vI 0), (Value.slice none 0 0), (vI 0), (vI 0), (vB false), (vI 0), (vI 0), (vI 0)] 38 (0, 0)) := ⟨_, rfl⟩
          have f446 := push_new e445
          rw [← eb443] at f446
          have n447 : b442 ≠ b391 := by have := row_lt f424; omega
          have n448 : ∀ zz, Oc zz → ¬ zz = b442 := fun zz hz ez => by have := p425.blk_lt hz; omega
          have n449 : ∀ zz, Od zz → ¬ zz = b442 := fun zz hz ez => by have := p426.blk_lt hz; omega
          have n450 : ∀ zz, (blk (Value.slice w87 ((idsL (runM ([] : Tab) (zs30.take ka.toNat))).length) (c88))) zz → ¬ zz = b442 := fun zz hz ez => by have := p427.blk_lt hz; omega
          have n451 : ∀ zz, (blk (Value.slice w335 ((idsL (runM (runM ([] : Tab) (zs30.take ka.toNat)) (zs197.take kc.toNat))).length) (c336))) zz → ¬ zz = b442 := fun zz hz ez => by have := p428.blk_lt hz; omega
          have n452 : ∀ zz, (blk (Value.slice w380 (s387.d.xs.length) (c381))) zz → ¬ zz = b442 := fun zz hz ez => by have := p429.blk_lt hz; omega
          have n453 : ∀ zz, (blk (Value.slice w432 (s387.d.xs.length) (c433))) zz → ¬ zz = b442 := fun zz hz ez => by have := o435.blk_lt hz; omega
          have x454 : Ext h419 h444 := by rw [e445]; exact Ext.push _ _
          have o455 : h.size ≤ b442 := by have := x430.size; omega
          have f456 := x454 _ _ f424
          have p457 := p425.keep fun b r _ q => x454 b r q
          have p458 := p426.keep fun b r _ q => x454 b r q
          have p459 := p427.keep fun b r _ q => x454 b r q
          have p460 := p428.keep fun b r _ q => x454 b r q
          have p461 := p429.keep fun b r _ q => x454 b r q
          have p462 := o435.keep fun b r _ q => x454 b r q
          have x463 := x430.trans x454
          obtain ⟨h464, e465⟩ : ∃ zq, zq = h444.setIfInBounds b442 (.cells #[(vS s387.d.name), (vI (s387.d.rt)), (vI (s387.d.dl)), (Value.slice w432 (s387.d.xs.length) (c433)), (vI (s387.st)), (vI (s387.ix)), (vB s387.cn), (vI (s387.tr)), (vI (s387.bg)), (vI (s387.er))] 38 (0, 0)) := ⟨_, rfl⟩
          have f466 := set_same e465 f446
          have f467 := set_other e465 f456 n447
          have p468 := p457.keep fun b r hb q => (Chg.set e465).same b r q (n448 b hb)
          have p469 := p458.keep fun b r hb q => (Chg.set e465).same b r q (n449 b hb)
          have p470 := p459.keep fun b r hb q => (Chg.set e465).same b r q (n450 b hb)
          have p471 := p460.keep fun b r hb q => (Chg.set e465).same b r q (n451 b hb)
          have p472 := p461.keep fun b r hb q => (Chg.set e465).same b r q (n452 b hb)
          have p473 := p462.keep fun b r hb q => (Chg.set e465).same b r q (n453 b hb)
          have x474 := Ext.setNew x463 e465 o455
          obtain ⟨_, hh475, sn476, rfl, x477⟩ := lsame_ok h464 s387 _ _ (OwnAt.lat p472 stepc_size (tsz_of size67)) (by omega) _ _ (OwnAt.lat p473 stepc_size (tsz_of size67))
          have p478 := p468.keep fun b r _ q => x477 b r q
          have p479 := p469.keep fun b r _ q => x477 b r q
          have p480 := p470.keep fun b r _ q => x477 b r q
          have p481 := p471.keep fun b r _ q => x477 b r q
          have x482 := x474.trans x477
          refine wc_ev [ltT 23 0 3 c355, evV 24 0 (vP b361 o362) (show indexAddrA Tryz.prog 63 (Value.slice w335 ((idsL (runM (runM ([] : Tab) (zs30.take ka.toNat)) (zs197.take kc.toNat))).length) (c336)) (vI kd) = some (vP b361 o362) from a364 und63 size3 e358), evV 24 1 (vI v357) (show loadT Tryz.prog h347 3 (vP b361 o362) = some (vI v357) from k365.cell (j := 0) agg3 rfl), evFe 25 2 p382 s370, evA 25 6 eb392 e394, evUw 25 7 size38 f395 e410, evFe 26 2 p434 s420, evA 26 6 eb443 e445, evUw 26 7 size38 f446 e465, evLw 27 7 agg38 size38 f467, evLw 27 8 agg38 size38 f466, evF 27 9 sn476, evV 29 0 (vI ((kd) + 1)) (show binA Tryz.prog .add 3 (vI kd) (vI 1) = some (vI ((kd) + 1)) from add_i64 (by omega) (by omega))] .normal hh475 [(116, (vB true)), (117, (vP b361 o362)), (118, (vI v357)), (17, (vI v357)), (120, (vP b4 0)), (121, (vI v357)), (122, (vT #[(vA #[(vS s387.d.name), (vI s387.d.rt), (vI s387.d.dl), (vL w380 s387.d.xs.length c381), (vI s387.st), (vI s387.ix), (vB s387.cn), (vI s387.tr), (vI s387.bg), (vI s387.er)]), (vI 0)])), (119, (vT #[(vA #[(vS s387.d.name), (vI s387.d.rt), (vI s387.d.dl), (vL w380 s387.d.xs.length c381), (vI s387.st), (vI s387.ix), (vB s387.cn), (vI s387.tr), (vI s387.bg), (vI s387.er)]), (vI 0)])), (123, (vA #[(vS s387.d.name), (vI s387.d.rt), (vI s387.d.dl), (vL w380 s387.d.xs.length c381), (vI s387.st), (vI s387.ix), (vB s387.cn), (vI s387.tr), (vI s387.bg), (vI s387.er)])), (124, (vI 0)), (18, (vP b391 0)), (19, (vI 0)), (126, (vP b13 0)), (127, (vI v357)), (128, (vT #[(vA #[(vS s387.d.name), (vI s387.d.rt), (vI s387.d.dl), (vL w432 s387.d.xs.length c433), (vI s387.st), (vI s387.ix), (vB s387.cn), (vI s387.tr), (vI s387.bg), (vI s387.er)]), (vI 0)])), (125, (vT #[(vA #[(vS s387.d.name), (vI s387.d.rt), (vI s387.d.dl), (vL w432 s387.d.xs.length c433), (vI s387.st), (vI s387.ix), (vB s387.cn), (vI s387.tr), (vI s387.bg), (vI s387.er)]), (vI 0)])), (129, (vA #[(vS s387.d.name), (vI s387.d.rt), (vI s387.d.dl), (vL w432 s387.d.xs.length c433), (vI s387.st), (vI s387.ix), (vB s387.cn), (vI s387.tr), (vI s387.bg), (vI s387.er)])), (130, (vI 0)), (20, (vP b442 0)), (21, (vI 0)), (131, (vI 0)), (132, (vB false)), (133, (vB false)), (134, (vI 0)), (135, (vB false)), (136, (vB false)), (137, (vB false)), (138, (vA #[(vS s387.d.name), (vI s387.d.rt), (vI s387.d.dl), (vL w380 s387.d.xs.length c381), (vI s387.st), (vI s387.ix), (vB s387.cn), (vI s387.tr), (vI s387.bg), (vI s387.er)])), (139, (vA #[(vS s387.d.name), (vI s387.d.rt), (vI s387.d.dl), (vL w432 s387.d.xs.length c433), (vI s387.st), (vI s387.ix), (vB s387.cn), (vI s387.tr), (vI s387.bg), (vI s387.er)])), (140, (vB true)), (141, (vB false)), (142, (vB false)), (143, (vI ((kd) + 1))), (115, (vI ((kd) + 1)))] ?_
          exact ⟨(idsL (runM (runM ([] : Tab) (zs30.take ka.toNat)) (zs197.take kc.toNat))).length - (kd + 1).toNat, by omega, ⟨kd + 1, (fun i => ([vU, vU, vU, vU, (g3 4), vU, vU, vU, vU, vU, vU, vU, vU, vU, vU, vU, vU, (vI v357), (vP b391 0), (vI 0), (vP b442 0), (vI 0), vU, vU, vU, vU, vU, vU, vU, vU, vU, vU, vU, vU, vU, vU, vU, vU, vU, vU, vU, vU, vU, vU, vU, vU, vU, vU, vU, vU, vU, vU, vU, vU, vU, vU, vU, vU, vU, vU, vU, vU, vU, vU, vU, vU, vU, vU, vU, vU, vU, vU, vU, vU, vU, vU, vU, vU, vU, vU, vU, vU, vU, vU, vU, vU, vU, vU, vU, vU, vU, vU, vU, vU, vU, vU, vU, vU, vU, vU, vU, vU, vU, vU, vU, vU, vU, vU, vU, vU, vU, vU, vU, vU, vU, vU, (vB true), (vP b361 o362), (vI v357), (vT #[(vA #[(vS s387.d.name), (vI s387.d.rt), (vI s387.d.dl), (vL w380 s387.d.xs.length c381), (vI s387.st), (vI s387.ix), (vB s387.cn), (vI s387.tr), (vI s387.bg), (vI s387.er)]), (vI 0)]), (vP b4 0), (vI v357), (vT #[(vA #[(vS s387.d.name), (vI s387.d.rt), (vI s387.d.dl), (vL w380 s387.d.xs.length c381), (vI s387.st), (vI s387.ix), (vB s387.cn), (vI s387.tr), (vI s387.bg), (vI s387.er)]), (vI 0)]), (vA #[(vS s387.d.name), (vI s387.d.rt), (vI s387.d.dl), (vL w380 s387.d.xs.length c381), (vI s387.st), (vI s387.ix), (vB s387.cn), (vI s387.tr), (vI s387.bg), (vI s387.er)]), (vI 0), (vT #[(vA #[(vS s387.d.name), (vI s387.d.rt), (vI s387.d.dl), (vL w432 s387.d.xs.length c433), (vI s387.st), (vI s387.ix), (vB s387.cn), (vI s387.tr), (vI s387.bg), (vI s387.er)]), (vI 0)]), (vP b13 0), (vI v357), (vT #[(vA #[(vS s387.d.name), (vI s387.d.rt), (vI s387.d.dl), (vL w432 s387.d.xs.length c433), (vI s387.st), (vI s387.ix), (vB s387.cn), (vI s387.tr), (vI s387.bg), (vI s387.er)]), (vI 0)]), (vA #[(vS s387.d.name), (vI s387.d.rt), (vI s387.d.dl), (vL w432 s387.d.xs.length c433), (vI s387.st), (vI s387.ix), (vB s387.cn), (vI s387.tr), (vI s387.bg), (vI s387.er)]), (vI 0), (vI 0), (vB false), (vB false), (vI 0), (vB false), (vB false), (vB false), (vA #[(vS s387.d.name), (vI s387.d.rt), (vI s387.d.dl), (vL w380 s387.d.xs.length c381), (vI s387.st), (vI s387.ix), (vB s387.cn), (vI s387.tr), (vI s387.bg), (vI s387.er)]), (vA #[(vS s387.d.name), (vI s387.d.rt), (vI s387.d.dl), (vL w432 s387.d.xs.length c433), (vI s387.st), (vI s387.ix), (vB s387.cn), (vI s387.tr), (vI s387.bg), (vI s387.er)]), (vB true), (vB false), (vB false), (vI ((kd) + 1))] : List Value).getD i undef), by as_aux_lemma => kernel_rfl, x482, rfl, by omega, p478, p479, p480, p481⟩⟩
        · refine wc_ev [ltF 23 0 3 c355] (.exit 6) h347 [(116, (vB false))] ?_
          obtain ⟨_, hh483, sn484, rfl, x485⟩ := works_ok h347 (x348 _ _ hg0) (x348 _ _ hg1)
          have x486 := x348.trans x485
          refine wc_ev [evF 30 0 sn484] .ret hh483 [(144, (vB true)), (4, (vB true))] ?_
          exact end_ev [] (vB true) (hK _ _ (⟨rfl, x486⟩))
end C29
