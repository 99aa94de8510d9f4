/- The run of SagasEnds. -/
import Derived.Test.YtjkcadbblgefdaaGreatDoorTj
import Derived.KernelRfl
open Go Go.AM Go.Proofs
namespace C29
/-- A saga without disturbance. -/
def ES (d : DefM) (st ix er : Int) : SagaM := ⟨d, st, ix, false, 0, 0, er⟩
/-- .. behind k results. -/
def EP (d : DefM) (st k : Int) : SagaM := if k < (d.xs.length : Nat) then ES d st k 0 else ES d (if st = 1 then 2 else 4) 0 0
theorem EP_lt {d : DefM} {st k : Int} (h : k < (d.xs.length : Nat)) : EP d st k = ES d st k 0 := if_pos h
theorem EP_end {d : DefM} {st k : Int} (h : ¬ k < (d.xs.length : Nat)) : EP d st k = ES d (if st = 1 then 2 else 4) 0 0 := if_neg h
theorem late0 {d : DefM} : lateM 0 0 d 0 = false := decide_eq_false (fun w => absurd w (by omega))
theorem ES_ok {d : DefM} {st ix er : Int} (hd : defB d = true) (h1 : 1 ≤ st ∧ st ≤ 5) (h2 : 0 ≤ ix ∧ (st < 4 → ix < (d.xs.length : Nat)) ∧ (4 ≤ st → ix = 0)) (h3 : ((st = 3 ∨ st = 5) → 1 ≤ er ∧ er ≤ 18) ∧ (¬ (st = 3 ∨ st = 5) → er = 0)) : chkS (ES d st ix er) = 0 :=
  chkS_ok hd (show budB 0 0 = true by decide) (okI_ok (s := ES d st ix er) (by
    refine ⟨h1, h2.1, fun w => ?_, fun w => ?_, ?_, h3.1, h3.2⟩
    · have := h2.2.1 w; show ix ≤ _; simp only [ES]; omega
    · have := h2.2.2 w; show ix ≤ _; omega
    · intro w; exact absurd (show (0 : Int) = 1 from w.1) (by decide)))
theorem ES_fwd {d : DefM} {k : Int} (hl : k < (d.xs.length : Nat)) : nxtS (ES d 1 k 0) 0 0 = EP d 1 (k + 1) := by
  rw [nxtS_1 rfl]
  unfold fwdS EP
  rw [amE_eq]
  simp only [ES, late0]
  by_cases h : k < (d.xs.length : Nat) - 1
  · rw [if_pos (show k + 1 < (d.xs.length : Nat) by omega)]; simp [h]
  · rw [if_neg (show ¬ k + 1 < (d.xs.length : Nat) by omega)]; simp [h]
theorem ES_fre {d : DefM} {k : Int} (hl : k < (d.xs.length : Nat)) : nxtS (ES d 2 k 0) 0 0 = EP d 2 (k + 1) := by
  rw [nxtS_2 rfl]
  unfold freS EP
  simp only [ES]
  by_cases h : k < (d.xs.length : Nat) - 1
  · rw [if_pos (show k + 1 < (d.xs.length : Nat) by omega)]; simp [h]
  · rw [if_neg (show ¬ k + 1 < (d.xs.length : Nat) by omega)]; simp [h]
theorem ES_bad {d : DefM} {r : Int} (hr : 1 ≤ r ∧ r ≤ 15) : nxtS (ES d 1 0 0) r 0 = ES d 5 0 r := by
  rw [nxtS_1 rfl]
  unfold fwdS
  rw [amE_eq]
  simp only [ES, late0]
  simp [show ¬ r = 0 by omega, show ¬ (r = 16 ∨ r = 17 ∨ r = 18) by omega]
theorem resE_at {s : SagaM} {e1 e2 e3 res now : Int} (h : chkS s = 0) (hr : (0 ≤ res ∧ res ≤ 18) ∧ 0 ≤ now ∧ now ≤ 2147483648) (h4 : s.st < 4) (he : e1 = 0 ∧ e2 = s.ix ∧ e3 = phS s.st) : resE s e1 e2 e3 res now = 0 := by
  unfold resE; rw [if_pos h, if_pos hr, if_pos h4, if_pos he]
theorem resE_end {s : SagaM} {e1 e2 e3 res now : Int} (h : chkS s = 0) (hr : (0 ≤ res ∧ res ≤ 18) ∧ 0 ≤ now ∧ now ≤ 2147483648) (h4 : ¬ s.st < 4) : resE s e1 e2 e3 res now = 9 := by
  unfold resE; rw [if_pos h, if_pos hr, if_neg h4]
/-- Two sagas. -/
abbrev T2 (a b : SagaM) : Tab := [(1, a), (2, b)]
theorem T2_start2 {d : DefM} (hd : defB d = true) : startE [] 2 d 0 = 0 ∧ startM [] 2 d 0 = [(2, ES d 1 0 0)] := by
  have e : startE [] 2 d 0 = 0 := by unfold startE; rw [if_pos (by decide), if_pos hd]; rfl
  refine ⟨e, ?_⟩
  unfold startM; rw [if_pos e]; rfl
theorem T2_start1 {d : DefM} (hd : defB d = true) : startE [(2, ES d 1 0 0)] 1 d 0 = 0 ∧ startM [(2, ES d 1 0 0)] 1 d 0 = T2 (ES d 1 0 0) (ES d 1 0 0) := by
  have e : startE [(2, ES d 1 0 0)] 1 d 0 = 0 := by unfold startE; rw [if_pos (by decide), if_pos hd]; rfl
  refine ⟨e, ?_⟩
  unfold startM; rw [if_pos e]; rfl
theorem T2_get (a b : SagaM) : getE (T2 a b) 1 = 0 ∧ getE (T2 a b) 2 = 0 ∧ getS (T2 a b) 1 = a ∧ getS (T2 a b) 2 = b := ⟨rfl, rfl, rfl, rfl⟩
theorem T2_r1 {a b : SagaM} {e2 e3 res now E : Int} (h : resE a 0 e2 e3 res now = E) : resTE (T2 a b) 1 1 e2 e3 res now = E ∧ (E = 0 → resTM (T2 a b) 1 1 e2 e3 res now = T2 (nxtS a res now) b) ∧ (¬ E = 0 → resTM (T2 a b) 1 1 e2 e3 res now = T2 a b) := by
  subst h
  have h0 : effD 1 1 = 0 := by decide
  have e : resTE (T2 a b) 1 1 e2 e3 res now = resE a 0 e2 e3 res now := by unfold resTE; rw [h0]; rfl
  refine ⟨e, fun w => ?_, fun w => ?_⟩
  · unfold resTM; rw [e]; exact if_pos w
  · unfold resTM; rw [e]; exact if_neg w
theorem T2_r2 {a b : SagaM} {e2 e3 res now E : Int} (h : resE b 0 e2 e3 res now = E) : resTE (T2 a b) 2 2 e2 e3 res now = E ∧ (E = 0 → resTM (T2 a b) 2 2 e2 e3 res now = T2 a (nxtS b res now)) ∧ (¬ E = 0 → resTM (T2 a b) 2 2 e2 e3 res now = T2 a b) := by
  subst h
  have h0 : effD 2 2 = 0 := by decide
  have e : resTE (T2 a b) 2 2 e2 e3 res now = resE b 0 e2 e3 res now := by unfold resTE; rw [h0]; rfl
  refine ⟨e, fun w => ?_, fun w => ?_⟩
  · unfold resTM; rw [e]; exact if_pos w
  · unfold resTM; rw [e]; exact if_neg w
theorem T2_can {a b : SagaM} {k : Int} (hk : k = 1 ∨ k = 2) (ha : canE a = 9) (hb : canE b = 9) : canTE (T2 a b) k = 9 ∧ canTM (T2 a b) k = T2 a b := by
  rcases hk with rfl | rfl
  · have e : canTE (T2 a b) 1 = 9 := ha
    exact ⟨e, by unfold canTM; rw [e]; rfl⟩
  · have e : canTE (T2 a b) 2 = 9 := hb
    exact ⟨e, by unfold canTM; rw [e]; rfl⟩
theorem canE_end {s : SagaM} (h : chkS s = 0) (h4 : ¬ s.st < 4) : canE s = 9 := by unfold canE; rw [if_pos h, if_neg (by omega)]
set_option maxRecDepth 10000 in
set_option maxHeartbeats 4000000 in
theorem law_ends (h : Heap) (n : Int) (hn : 0 ≤ n ∧ n ≤ 255) (res : Int) (hres : 0 ≤ res ∧ res ≤ 255) (hg0 : h[0]? = some (.cells #[(vI 0), (vI 1), (vI 3), (vI 2)] 128 (0, 0))) (hg1 : h[1]? = some (.cells #[Value.nilFunc, (Value.func (.func 178) #[] #[]), (Value.func (.func 179) #[] #[]), (Value.func (.func 180) #[] #[])] 130 (0, 0))) : WCall Tryz.prog 7 #[(Value.int .u8 (n)), (Value.int .u8 (res))] h (fun v h1 => v = .bool true ∧ Ext h h1) := by
  suffices H : ∀ K : Value → Heap → Prop, (∀ v h1, (fun v h1 => v = .bool true ∧ Ext h h1) v h1 → K v h1) → WCall Tryz.prog 7 #[(Value.int .u8 (n)), (Value.int .u8 (res))] h K from H _ fun _ _ q => q
  intro K hK
  refine wcall_at { tmps := #[(Value.int .u8 (n)), (Value.int .u8 (res)), vZ, vZ, vZ, vZ, vZ, vZ, vZ, vZ, vZ, vZ, vZ, vZ, vZ, vZ, vZ, vZ, vZ, vZ, vZ, vZ, vZ, vZ, vZ, vZ, vZ, vZ, vZ, vZ, vZ, vZ, vZ, vZ, vZ, vZ, vZ, vZ, vZ, vZ, vZ, vZ, vZ, vZ, vZ, vZ, vZ, vZ, vZ, vZ, vZ, vZ, vZ, vZ, vZ, vZ, vZ, vZ, vZ, vZ, vZ, vZ, vZ, vZ, vZ, vZ, vZ, vZ, vZ, vZ, vZ, vZ, vZ, vZ, vZ, vZ, vZ, vZ, vZ, vZ, vZ, vZ, vZ, vZ, vZ, vZ, vZ, vZ, vZ, vZ, vZ, vZ, vZ, vZ, vZ, vZ, vZ, vZ, vZ, vZ, vZ, vZ, vZ, vZ, vZ, vZ, vZ, vZ, vZ, vZ, vZ, vZ, vZ, vZ, vZ, vZ, vZ, vZ, vZ, vZ, vZ, vZ, vZ, vZ, vZ, vZ, vZ, vZ, vZ, vZ, vZ, vZ, vZ, vZ, vZ, vZ, vZ, vZ, vZ, vZ, vZ, vZ, vZ, vZ, vZ, vZ, vZ, vZ, vZ, vZ, vZ, vZ, vZ, vZ, vZ, vZ, vZ, vZ, vZ], defers := [] } (by kernel_rfl) ?_
  refine wc_seq' (subc (bodyOf Tryz.prog 7) [0]) (subc (bodyOf Tryz.prog 7) [1]) (by kernel_rfl) ?_
  refine wc_ev [] .normal h [(4, (vB false))] ?_
  refine wc_seq' (subc (bodyOf Tryz.prog 7) [1, 0]) (subc (bodyOf Tryz.prog 7) [1, 1]) (by kernel_rfl) ?_
  obtain ⟨_, h2, s3, b4, O5726, rfl, p5, x6, w7⟩ := tnew_ok h
  have x8 := (Ext.refl h).trans x6
  have z9 : h.size ≤ h.size := (Ext.refl h).size
  have o10 : ∀ zz, O5726 zz → h.size ≤ zz := fun zz hz => by have := w7 zz hz; omega
  obtain ⟨_, h11, s12, w13, c14, rfl, o15, x16, n17⟩ := def_ok h2 (n) (by omega)
  obtain ⟨d18, e19⟩ : ∃ q, q = defN (n) := ⟨_, rfl⟩
  rw [← e19] at s12 o15 n17
  have k20 : defB d18 = true := by rw [e19]; exact defN_ok (by omega)
  have q21 := defB_of k20
  have p22 := p5.keep fun b r _ q => x16 b r q
  have x23 := x8.trans x16
  have z24 : h.size ≤ h2.size := x8.size
  have n25 : ∀ zz, blk (Value.slice w13 (d18.xs.length) (c14)) zz → ¬ O5726 zz := fun zz hz ez => by have := n17 zz hz; have := p5.blk_lt ez; omega
  have o26 : ∀ zz, blk (Value.slice w13 (d18.xs.length) (c14)) zz → h.size ≤ zz := fun zz hz => by have := n17 zz hz; omega
  obtain ⟨b27, eb28⟩ : ∃ zq, zq = h11.size := ⟨_, rfl⟩
  obtain ⟨h29, e30⟩ : ∃ zq, zq = h11.push (.cells #[(vS .empty), (vI 0), (vI 0), (Value.slice none 0 0)] 31 (0, 0)) := ⟨_, rfl⟩
  have f31 := push_new e30
  rw [← eb28] at f31
  have n32 : ∀ zz, O5726 zz → ¬ zz = b27 := fun zz hz ez => by have := p22.blk_lt hz; omega
  have n33 : ∀ zz, (blk (Value.slice w13 (d18.xs.length) (c14))) zz → ¬ zz = b27 := fun zz hz ez => by have := o15.blk_lt hz; omega
  have x34 : Ext h11 h29 := by rw [e30]; exact Ext.push _ _
  have o35 : h.size ≤ b27 := by have := x23.size; omega
  have p36 := p22.keep fun b r _ q => x34 b r q
  have p37 := o15.keep fun b r _ q => x34 b r q
  have x38 := x23.trans x34
  obtain ⟨h39, e40⟩ : ∃ zq, zq = h29.setIfInBounds b27 (.cells #[(vS d18.name), (vI (d18.rt)), (vI (d18.dl)), (Value.slice w13 (d18.xs.length) (c14))] 31 (0, 0)) := ⟨_, rfl⟩
  have f41 := set_same e40 f31
  have p42 := p36.keep fun b r hb q => (Chg.set e40).same b r q (n32 b hb)
  have p43 := p37.keep fun b r hb q => (Chg.set e40).same b r q (n33 b hb)
  have x44 := Ext.setNew x38 e40 o35
  refine wc_ev [evF 1 0 s3, evF 1 2 s12, evA 1 3 eb28 e30, evUw 1 5 size31 f31 e40] .normal h39 [(19, (vP b4 0)), (20, (Value.int .u8 (n))), (21, (vA #[(vS d18.name), (vI d18.rt), (vI d18.dl), (vL w13 d18.xs.length c14)])), (6, (vP b27 0)), (5, (vP b4 0))] ?_
  refine wc_seq' (subc (bodyOf Tryz.prog 7) [1, 1, 0]) (subc (bodyOf Tryz.prog 7) [1, 1, 1]) (by kernel_rfl) ?_
  obtain ⟨_, h45, s46, rfl, x47, O5777, p48, o49⟩ := tstart_ok h39 p42 WfT.nil 2 d18 _ _ (OwnAt.lat p43 stepc_size (tsz_of size67)) (by omega) 0
  have k50 := WfT.start WfT.nil 2 d18 0
  have e51 : startE ([] : Tab) 2 d18 0 = 0 := (T2_start2 k20).1
  rw [e51] at s46
  have e52 : (startM ([] : Tab) 2 d18 0) = [(2, ES d18 1 0 0)] := (T2_start2 k20).2
  rw [e52] at p48 k50
  have z53 : h.size ≤ h39.size := x44.size
  have x54 : Ext h _ := (Chg.then (O := fun _ => False) (Chg.ext x44) x47 (fun b hb => .inr (o10 b hb))).toExt'
  have f55 := x47.same _ _ f41 (fun hb => n32 _ hb rfl)
  have p56 := p43.keep fun b r hb q => x47.same b r q (n25 b hb)
  have z57 : h.size ≤ h39.size := x44.size
  have n58 : ∀ zz, O5777 zz → ¬ zz = b27 := fun zz hz ez => by rcases o49 zz hz with g | g; (exact n32 _ g ez); have := row_lt f41; omega
  have n59 : ∀ zz, O5777 zz → ¬ (blk (Value.slice w13 (d18.xs.length) (c14))) zz := fun zz hz ez => by rcases o49 zz hz with g | g; (exact n25 _ ez g); have := p43.blk_lt ez; omega
  have o60 : ∀ zz, O5777 zz → h.size ≤ zz := fun zz hz => by rcases o49 zz hz with g | g; (exact o10 zz g); omega
  obtain ⟨_, h61, s62, rfl, x63, O5796, p64, o65⟩ := tstart_ok h45 p48 k50 1 d18 _ _ (OwnAt.lat p56 stepc_size (tsz_of size67)) (by omega) 0
  have k66 := WfT.start k50 1 d18 0
  have e67 : startE [(2, ES d18 1 0 0)] 1 d18 0 = 0 := (T2_start1 k20).1
  rw [e67] at s62
  have e68 : (startM [(2, ES d18 1 0 0)] 1 d18 0) = (T2 (ES d18 1 0 0) (ES d18 1 0 0)) := (T2_start1 k20).2
  rw [e68] at p64 k66
  have z69 : h.size ≤ h45.size := x54.size
  have x70 : Ext h _ := (Chg.then (O := fun _ => False) (Chg.ext x54) x63 (fun b hb => .inr (o60 b hb))).toExt'
  have f71 := x63.same _ _ f55 (fun hb => n58 _ hb rfl)
  have p72 := p56.keep fun b r hb q => x63.same b r q ((fun b hb hb2 => n59 b hb2 hb) b hb)
  have z73 : h.size ≤ h45.size := x54.size
  have n74 : ∀ zz, O5796 zz → ¬ (blk (Value.slice w13 (d18.xs.length) (c14))) zz := fun zz hz ez => by rcases o65 zz hz with g | g; (exact n59 _ g ez); have := p56.blk_lt ez; omega
  have o75 : ∀ zz, O5796 zz → h.size ≤ zz := fun zz hz => by rcases o65 zz hz with g | g; (exact o60 zz g); omega
  refine wc_ev [evLw 2 1 agg31 size31 f41, evF 2 2 s46, evLw 2 6 agg31 size31 f55, evF 2 7 s62] .normal h61 [(22, (vP b4 0)), (23, (vA #[(vS d18.name), (vI d18.rt), (vI d18.dl), (vL w13 d18.xs.length c14)])), (24, (vI 0)), (25, (vB false)), (26, (vB false)), (27, (vP b4 0)), (28, (vA #[(vS d18.name), (vI d18.rt), (vI d18.dl), (vL w13 d18.xs.length c14)])), (29, (vI 0)), (30, (vB false)), (31, (vB false))] ?_
  refine wc_seq' (subc (bodyOf Tryz.prog 7) [1, 1, 1, 0]) (subc (bodyOf Tryz.prog 7) [1, 1, 1, 1]) (by kernel_rfl) ?_
  refine wc_seq' (subc (bodyOf Tryz.prog 7) [1, 1, 1, 0, 0]) (subc (bodyOf Tryz.prog 7) [1, 1, 1, 0, 1]) (by kernel_rfl) ?_
  obtain ⟨b76, eb77⟩ : ∃ zq, zq = h61.size := ⟨_, rfl⟩
  obtain ⟨h78, e79⟩ : ∃ zq, zq = h61.push (.cells #[(vI 1), (vI 3)] 3 (0, 0)) := ⟨_, rfl⟩
  have f80 := push_new e79
  rw [← eb77] at f80
  have x81 : Ext h61 h78 := by rw [e79]; exact Ext.push _ _
  have o82 : h.size ≤ b76 := by have := x70.size; omega
  have f83 := x81 _ _ f71
  have p84 := p64.keep fun b r _ q => x81 b r q
  have p85 := p72.keep fun b r _ q => x81 b r q
  have x86 := x70.trans x81
  refine wc_ev [evS 4 0 2 eb77 e79] .normal h78 [(32, (vL (some ⟨b76, 0, none⟩) 2 2)), (33, (vI 2)), (34, (vI 0))] ?_
  refine wc_block' 0 (subc (bodyOf Tryz.prog 7) [1, 1, 1, 0, 1, 0]) (by kernel_rfl) ?_
  refine wc_once (subc (bodyOf Tryz.prog 7) [1, 1, 1, 0, 1, 0, 0]) (by kernel_rfl) ?_
  refine wc_seq' (subc (bodyOf Tryz.prog 7) [1, 1, 1, 0, 1, 0, 0, 0]) (subc (bodyOf Tryz.prog 7) [1, 1, 1, 0, 1, 0, 0, 1]) (by kernel_rfl) ?_
  refine wc_ev [] .normal h78 [(35, (vB true))] ?_
  refine wc_seq' (subc (bodyOf Tryz.prog 7) [1, 1, 1, 0, 1, 0, 0, 1, 0]) (subc (bodyOf Tryz.prog 7) [1, 1, 1, 0, 1, 0, 0, 1, 1]) (by kernel_rfl) ?_
  refine wc_ev [] .normal h78 [] ?_
  refine wc_seq' (subc (bodyOf Tryz.prog 7) [1, 1, 1, 0, 1, 0, 0, 1, 1, 0]) (subc (bodyOf Tryz.prog 7) [1, 1, 1, 0, 1, 0, 0, 1, 1, 1]) (by kernel_rfl) ?_
  refine wc_block' 1 (subc (bodyOf Tryz.prog 7) [1, 1, 1, 0, 1, 0, 0, 1, 1, 0, 0]) (by kernel_rfl) ?_
  refine wc_seq' (subc (bodyOf Tryz.prog 7) [1, 1, 1, 0, 1, 0, 0, 1, 1, 0, 0, 0]) (subc (bodyOf Tryz.prog 7) [1, 1, 1, 0, 1, 0, 0, 1, 1, 0, 0, 1]) (by kernel_rfl) ?_
  refine wc_ev [evC 6 1 0 agg3 f80] .normal h78 [(36, (vP b76 0)), (37, (vI 1)), (8, (vI 1))] ?_
  refine wc_seq' (subc (bodyOf Tryz.prog 7) [1, 1, 1, 0, 1, 0, 0, 1, 1, 0, 0, 1, 0]) (subc (bodyOf Tryz.prog 7) [1, 1, 1, 0, 1, 0, 0, 1, 1, 0, 0, 1, 1]) (by kernel_rfl) ?_
  refine wc_ev [evC 7 1 3 agg29 f83] .normal h78 [(38, (vP b27 3)), (39, (vL w13 d18.xs.length c14)), (40, (vI ((d18.xs.length : Nat)))), (41, (vI 0))] ?_
  refine wc_act { tmps := #[(Value.int .u8 (n)), (Value.int .u8 (res)), vZ, vZ, (vB false), (vP b4 0), (vP b27 0), vZ, (vI 1), vZ, vZ, vZ, vZ, vZ, vZ, vZ, vZ, vZ, vZ, (vP b4 0), (Value.int .u8 (n)), (vA #[(vS d18.name), (vI d18.rt), (vI d18.dl), (vL w13 d18.xs.length c14)]), (vP b4 0), (vA #[(vS d18.name), (vI d18.rt), (vI d18.dl), (vL w13 d18.xs.length c14)]), (vI 0), (vB false), (vB false), (vP b4 0), (vA #[(vS d18.name), (vI d18.rt), (vI d18.dl), (vL w13 d18.xs.length c14)]), (vI 0), (vB false), (vB false), (vL (some ⟨b76, 0, none⟩) 2 2), (vI 2), (vI 0), (vB true), (vP b76 0), (vI 1), (vP b27 3), (vL w13 d18.xs.length c14), (vI ((d18.xs.length : Nat))), (vI 0), vZ, vZ, vZ, vZ, vZ, vZ, vZ, vZ, vZ, vZ, vZ, vZ, vZ, vZ, vZ, vZ, vZ, vZ, vZ, vZ, vZ, vZ, vZ, vZ, vZ, vZ, vZ, vZ, vZ, vZ, vZ, vZ, vZ, vZ, vZ, vZ, vZ, vZ, vZ, vZ, vZ, vZ, vZ, vZ, vZ, vZ, vZ, vZ, vZ, vZ, vZ, vZ, vZ, vZ, vZ, vZ, vZ, vZ, vZ, vZ, vZ, vZ, vZ, vZ, vZ, vZ, vZ, vZ, vZ, vZ, vZ, vZ, vZ, vZ, vZ, vZ, vZ, vZ, vZ, vZ, vZ, vZ, vZ, vZ, vZ, vZ, vZ, vZ, vZ, vZ, vZ, vZ, vZ, vZ, vZ, vZ, vZ, vZ, vZ, vZ, vZ, vZ, vZ, vZ, vZ, vZ, vZ, vZ, vZ, vZ, vZ, vZ, vZ, vZ, vZ, vZ, vZ], defers := [] } (by as_aux_lemma => kernel_rfl) ?_
  refine wc_block' 2 (subc (bodyOf Tryz.prog 7) [1, 1, 1, 0, 1, 0, 0, 1, 1, 0, 0, 1, 1, 0]) (by kernel_rfl) ?_
  have ep0 : T2 (ES d18 1 0 0) (ES d18 1 0 0) = T2 (ES d18 1 0 0) (EP d18 1 0) := by rw [EP_lt (by omega)]
  refine wc_loop' (subc (bodyOf Tryz.prog 7) [1, 1, 1, 0, 1, 0, 0, 1, 1, 0, 0, 1, 1, 0, 0]) (by kernel_rfl) (fun n' a' h' => ∃ (ka : Int) (Ot : Nat → Prop) (g0 : Nat → Value), a' = { tmps := #[(Value.int .u8 (n)), (Value.int .u8 (res)), vZ, vZ, (g0 4), (vP b4 0), (vP b27 0), vZ, (vI 1), (g0 9), (g0 10), vZ, vZ, vZ, vZ, vZ, vZ, vZ, vZ, (vP b4 0), (Value.int .u8 (n)), (vA #[(vS d18.name), (vI d18.rt), (vI d18.dl), (vL w13 d18.xs.length c14)]), (vP b4 0), (vA #[(vS d18.name), (vI d18.rt), (vI d18.dl), (vL w13 d18.xs.length c14)]), (vI 0), (vB false), (vB false), (vP b4 0), (vA #[(vS d18.name), (vI d18.rt), (vI d18.dl), (vL w13 d18.xs.length c14)]), (vI 0), (vB false), (vB false), (vL (some ⟨b76, 0, none⟩) 2 2), (vI 2), (vI 0), (vB true), (vP b76 0), (vI 1), (vP b27 3), (vL w13 d18.xs.length c14), (vI ((d18.xs.length : Nat))), (vI ka), (g0 42), (g0 43), (g0 44), (g0 45), (g0 46), (g0 47), (g0 48), (g0 49), (g0 50), (g0 51), (g0 52), (g0 53), (g0 54), (g0 55), (g0 56), (g0 57), (g0 58), (g0 59), (g0 60), (g0 61), (g0 62), (g0 63), (g0 64), vZ, vZ, vZ, vZ, vZ, vZ, vZ, vZ, vZ, vZ, vZ, vZ, vZ, vZ, vZ, vZ, vZ, vZ, vZ, vZ, vZ, vZ, vZ, vZ, vZ, vZ, vZ, vZ, vZ, vZ, vZ, vZ, vZ, vZ, vZ, vZ, vZ, vZ, vZ, vZ, vZ, vZ, vZ, vZ, vZ, vZ, vZ, vZ, vZ, vZ, vZ, vZ, vZ, vZ, vZ, vZ, vZ, vZ, vZ, vZ, vZ, vZ, vZ, vZ, vZ, vZ, vZ, vZ, vZ, vZ, vZ, vZ, vZ, vZ, vZ, vZ, vZ, vZ, vZ, vZ, vZ, vZ, vZ, vZ, vZ, vZ, vZ, vZ, vZ, vZ, vZ, vZ, vZ, vZ], defers := [] } ∧ Ext h h' ∧ n' = d18.xs.length - ka.toNat ∧ h'[b27]? = some (.cells #[(vS d18.name), (vI d18.rt), (vI d18.dl), (vL w13 d18.xs.length c14)] 31 (0, 0)) ∧ h'[b76]? = some (.cells #[(vI 1), (vI 3)] 3 (0, 0)) ∧ (0 ≤ ka ∧ ka ≤ d18.xs.length) ∧ (∀ zz, Ot zz → h.size ≤ zz) ∧ WfT (T2 (ES d18 1 0 0) (EP d18 1 ka)) ∧ (∀ zz, Ot zz → ¬ (blk (vL w13 d18.xs.length c14)) zz) ∧ TbAt 57 h' Ot b4 (T2 (ES d18 1 0 0) (EP d18 1 ka)) ∧ OwnAt h' 67 stepc d18.xs (vL w13 d18.xs.length c14)) ?_ (d18.xs.length - (0 : Int).toNat) ⟨0, O5796, (fun i => ([vU, vU, vU, vU, (vB false), vU, vU, vU, vU, vZ, vZ, vU, vU, vU, vU, vU, vU, vU, vU, vU, vU, vU, vU, vU, vU, vU, vU, vU, vU, vU, vU, vU, vU, vU, vU, vU, vU, vU, vU, vU, vU, vU, vZ, vZ, vZ, vZ, vZ, vZ, vZ, vZ, vZ, vZ, vZ, vZ, vZ, vZ, vZ, vZ, vZ, vZ, vZ, vZ, vZ, vZ, vZ] : List Value).getD i undef), by as_aux_lemma => kernel_rfl, x86, rfl, f83, f80, by omega, o75, (by have q9 := k66; rw [ep0] at q9; exact q9), n74, (by have q9 := p84; rw [ep0] at q9; exact q9), p85⟩
  rintro n' _ h87 ⟨ka, Ot, g0, rfl, x88, m89, f90, f91, i92, i93, i94, i95, p96, p97⟩
  by_cases c98 : ((ka) : Int) < ((d18.xs.length : Nat))
  · obtain ⟨b99, eb100⟩ : ∃ zq, zq = h87.size := ⟨_, rfl⟩
    obtain ⟨h101, e102⟩ : ∃ zq, zq = h87.push (.cells #[(vI 0), (vI 0), (vI 0)] 33 (0, 0)) := ⟨_, rfl⟩
    have f103 := push_new e102
    rw [← eb100] at f103
    have n104 : b99 ≠ b27 := by have := row_lt f90; omega
    have n105 : b99 ≠ b76 := by have := row_lt f91; omega
    have n106 : ∀ zz, Ot zz → ¬ zz = b99 := fun zz hz ez => by have := p96.blk_lt hz; omega
    have n107 : ∀ zz, (blk (Value.slice w13 (d18.xs.length) (c14))) zz → ¬ zz = b99 := fun zz hz ez => by have := p97.blk_lt hz; omega
    have x108 : Ext h87 h101 := by rw [e102]; exact Ext.push _ _
    have o109 : h.size ≤ b99 := by have := x88.size; omega
    have f110 := x108 _ _ f90
    have f111 := x108 _ _ f91
    have p112 := p96.keep fun b r _ q => x108 b r q
    have p113 := p97.keep fun b r _ q => x108 b r q
    have x114 := x88.trans x108
    obtain ⟨h115, e116⟩ : ∃ zq, zq = h101.setIfInBounds b99 (.cells #[(vI 2), (vI (ka)), (vI 1)] 33 (0, 0)) := ⟨_, rfl⟩
    have f117 := set_same e116 f103
    have f118 := set_other e116 f110 n104
    have f119 := set_other e116 f111 n105
    have p120 := p112.keep fun b r hb q => (Chg.set e116).same b r q (n106 b hb)
    have p121 := p113.keep fun b r hb q => (Chg.set e116).same b r q (n107 b hb)
    have x122 := Ext.setNew x114 e116 o109
    obtain ⟨b123, eb124⟩ : ∃ zq, zq = h115.size := ⟨_, rfl⟩
    obtain ⟨h125, e126⟩ : ∃ zq, zq = h115.push (.cells #[(vI 1), (vI 0), (vI 1), (vI 2), (vI (ka)), (vI 1)] 33 (0, 0)) := ⟨_, rfl⟩
    have f127 := push_new e126
    rw [← eb124] at f127
    have x128 : Ext h115 h125 := by rw [e126]; exact Ext.push _ _
    have o129 : h.size ≤ b123 := by have := x122.size; omega
    have f130 := x128 _ _ f118
    have f131 := x128 _ _ f119
    have f132 := x128 _ _ f117
    have p133 := p120.keep fun b r _ q => x128 b r q
    have p134 := p121.keep fun b r _ q => x128 b r q
    have x135 := x122.trans x128
    obtain ⟨_, h136, s137, w138, c139, rfl, o140, x141, n142⟩ := tnext_ok h125 p133 i94 (x135 _ _ hg0) (x135 _ _ hg1)
    have e143 : (nxtL (T2 (ES d18 1 0 0) (EP d18 1 ka))) = ([⟨1, 0, 1⟩, ⟨2, ka, 1⟩] : List EffM) := by rw [(show EP d18 1 ka = ES d18 1 ka 0 from EP_lt (by omega))]; rfl
    rw [e143] at s137 o140 n142
    have z144 : ([⟨1, 0, 1⟩, ⟨2, ka, 1⟩] : List EffM).length = 2 := rfl
    have f145 := x141 _ _ f130
    have f146 := x141 _ _ f131
    have f147 := x141 _ _ f132
    have f148 := x141 _ _ f127
    have p149 := p133.keep fun b r _ q => x141 b r q
    have p150 := p134.keep fun b r _ q => x141 b r q
    have x151 := x135.trans x141
    have z152 : h.size ≤ h125.size := x135.size
    have o153 : ∀ zz, blk (Value.slice w138 (([⟨1, 0, 1⟩, ⟨2, ka, 1⟩] : List EffM).length) (c139)) zz → h.size ≤ zz := fun zz hz => by have := n142 zz hz; omega
    obtain ⟨_, _, s154, rfl, rfl⟩ := eqE_ok h136 ([⟨1, 0, 1⟩, ⟨2, ka, 1⟩] : List EffM) ([(EffM.mk 1 0 1), (EffM.mk 2 (ka) 1)] : List EffM) _ _ _ _ (o140.slice effc_size) (sl_row (xs := ([(EffM.mk 1 0 1), (EffM.mk 2 (ka) 1)] : List EffM)) f148 effc_size (by kernel_rfl) rfl) (by simp only [List.length_cons, List.length_nil]; decide)
    obtain ⟨_, h155, s156, rfl, x157⟩ := quiet_ok h136 p149 i94 (x151 _ _ hg0) (x151 _ _ hg1)
    have f158 := x157 _ _ f145
    have f159 := x157 _ _ f146
    have f160 := x157 _ _ f147
    have p161 := p149.keep fun b r _ q => x157 b r q
    have p162 := p150.keep fun b r _ q => x157 b r q
    have x163 := x151.trans x157
    have e164 : quietT (T2 (ES d18 1 0 0) (EP d18 1 ka)) = false := by rw [(show EP d18 1 ka = ES d18 1 ka 0 from EP_lt (by omega))]; rfl
    rw [e164] at s156
    obtain ⟨_, h165, s166, rfl, x167, O5931, p168, o169⟩ := tresult_ok h155 p161 i94 2 2 (ka) 1 0 0 (x163 _ _ hg0) (x163 _ _ hg1)
    have k170 := WfT.res i94 2 2 (ka) 1 0 0
    have q171 := T2_r2 (a := ES d18 1 0 0) (b := EP d18 1 ka) (e2 := (ka)) (e3 := 1) (res := 0) (now := 0) (E := 0) (by rw [(show EP d18 1 ka = ES d18 1 ka 0 from EP_lt (by omega))]; exact resE_at (ES_ok k20 (by omega) (by omega) (by omega)) (by omega) (show (1 : Int) < 4 by decide) ⟨rfl, rfl, rfl⟩)
    have e172 : resTE (T2 (ES d18 1 0 0) (EP d18 1 ka)) 2 2 (ka) 1 0 0 = 0 := q171.1
    rw [e172] at s166
    have e173 : (resTM (T2 (ES d18 1 0 0) (EP d18 1 ka)) 2 2 (ka) 1 0 0) = (T2 (ES d18 1 0 0) (EP d18 1 (ka + 1))) := by rw [q171.2.1 rfl, (show EP d18 1 ka = ES d18 1 ka 0 from EP_lt (by omega)), ES_fwd (by omega)]
    rw [e173] at p168 k170
    have z174 : h.size ≤ h155.size := x163.size
    have x175 : Ext h _ := (Chg.then (O := fun _ => False) (Chg.ext x163) x167 (fun b hb => .inr (i93 b hb))).toExt'
    have f176 := x167.same _ _ f158 (fun hb => p161.ne f158 (by decide) (by decide) _ hb rfl)
    have f177 := x167.same _ _ f159 (fun hb => p161.ne f159 (by decide) (by decide) _ hb rfl)
    have p178 := p162.keep fun b r hb q => x167.same b r q ((fun b hb hb2 => i95 b hb2 hb) b hb)
    have z179 : h.size ≤ h155.size := x163.size
    have n180 : ∀ zz, O5931 zz → ¬ (blk (Value.slice w13 (d18.xs.length) (c14))) zz := fun zz hz ez => by rcases o169 zz hz with g | g; (exact i95 _ g ez); have := p162.blk_lt ez; omega
    have o181 : ∀ zz, O5931 zz → h.size ≤ zz := fun zz hz => by rcases o169 zz hz with g | g; (exact i93 zz g); omega
    refine wc_ev [ltT 8 0 3 c98, evA 10 3 eb100 e102, evUw 10 4 size33 f103 e116, evLw 11 3 agg33 size33 f117, evS 11 4 2 eb124 e126, evF 11 1 s137, evLw 99 0 agg33 size33 f147, evFt 11 5 (show ([⟨1, 0, 1⟩, ⟨2, ka, 1⟩] : List EffM) = ([(EffM.mk 1 0 1), (EffM.mk 2 (ka) 1)] : List EffM) by rfl) s154, evF 11 9 s156, evLw 11 13 agg33 size33 f160, evF 11 14 s166, evV 13 0 (vI ((ka) + 1)) (show binA Tryz.prog .add 3 (vI ka) (vI 1) = some (vI ((ka) + 1)) from add_i64 (by omega) (by omega))] .normal h165 [(42, (vB true)), (43, (vI ka)), (9, (vI ka)), (44, (vI ka)), (45, (vI 1)), (46, (vA #[(vI 2), (vI ka), (vI 1)])), (10, (vP b99 0)), (47, (vP b4 0)), (49, (vA #[(vI 1), (vI 0), (vI 1)])), (50, (vA #[(vI 2), (vI ka), (vI 1)])), (51, (vL (some ⟨b123, 0, none⟩) 2 2)), (48, (vL w138 (([⟨1, 0, 1⟩, ⟨2, ka, 1⟩] : List EffM).length) c139)), (52, (vB true)), (53, (vB false)), (54, (vB false)), (55, (vP b4 0)), (56, (vB false)), (57, (vB false)), (58, (vB false)), (59, (vP b4 0)), (60, (vA #[(vI 2), (vI ka), (vI 1)])), (61, (vI 0)), (62, (vB false)), (63, (vB false)), (64, (vI ((ka) + 1))), (41, (vI ((ka) + 1)))] ?_
    exact ⟨d18.xs.length - (ka + 1).toNat, by omega, ⟨ka + 1, O5931, (fun i => ([vU, vU, vU, vU, (g0 4), vU, vU, vU, vU, (vI ka), (vP b99 0), vU, vU, vU, vU, vU, vU, vU, vU, vU, vU, vU, vU, vU, vU, vU, vU, vU, vU, vU, vU, vU, vU, vU, vU, vU, vU, vU, vU, vU, vU, vU, (vB true), (vI ka), (vI ka), (vI 1), (vA #[(vI 2), (vI ka), (vI 1)]), (vP b4 0), (vL w138 (([⟨1, 0, 1⟩, ⟨2, ka, 1⟩] : List EffM).length) c139), (vA #[(vI 1), (vI 0), (vI 1)]), (vA #[(vI 2), (vI ka), (vI 1)]), (vL (some ⟨b123, 0, none⟩) 2 2), (vB true), (vB false), (vB false), (vP b4 0), (vB false), (vB false), (vB false), (vP b4 0), (vA #[(vI 2), (vI ka), (vI 1)]), (vI 0), (vB false), (vB false), (vI ((ka) + 1))] : List Value).getD i undef), by as_aux_lemma => kernel_rfl, x175, rfl, f176, f177, by omega, o181, k170, n180, p168, p178⟩⟩
  · refine wc_ev [ltF 8 0 3 c98] (.exit 2) h87 [(42, (vB false))] ?_
    refine wc_ev [] .normal h87 [(65, (vI 1)), (34, (vI 1))] ?_
    refine wc_once (subc (bodyOf Tryz.prog 7) [1, 1, 1, 0, 1, 0, 0]) rfl ?_
    refine wc_seq' (subc (bodyOf Tryz.prog 7) [1, 1, 1, 0, 1, 0, 0, 0]) (subc (bodyOf Tryz.prog 7) [1, 1, 1, 0, 1, 0, 0, 1]) (by kernel_rfl) ?_
    refine wc_ev [] .normal h87 [(35, (vB true))] ?_
    refine wc_seq' (subc (bodyOf Tryz.prog 7) [1, 1, 1, 0, 1, 0, 0, 1, 0]) (subc (bodyOf Tryz.prog 7) [1, 1, 1, 0, 1, 0, 0, 1, 1]) (by kernel_rfl) ?_
    refine wc_ev [] .normal h87 [] ?_
    refine wc_seq' (subc (bodyOf Tryz.prog 7) [1, 1, 1, 0, 1, 0, 0, 1, 1, 0]) (subc (bodyOf Tryz.prog 7) [1, 1, 1, 0, 1, 0, 0, 1, 1, 1]) (by kernel_rfl) ?_
    refine wc_block' 1 (subc (bodyOf Tryz.prog 7) [1, 1, 1, 0, 1, 0, 0, 1, 1, 0, 0]) (by kernel_rfl) ?_
    refine wc_seq' (subc (bodyOf Tryz.prog 7) [1, 1, 1, 0, 1, 0, 0, 1, 1, 0, 0, 0]) (subc (bodyOf Tryz.prog 7) [1, 1, 1, 0, 1, 0, 0, 1, 1, 0, 0, 1]) (by kernel_rfl) ?_
    refine wc_ev [evC 6 1 1 agg3 f91] .normal h87 [(36, (vP b76 1)), (37, (vI 3)), (8, (vI 3))] ?_
    refine wc_seq' (subc (bodyOf Tryz.prog 7) [1, 1, 1, 0, 1, 0, 0, 1, 1, 0, 0, 1, 0]) (subc (bodyOf Tryz.prog 7) [1, 1, 1, 0, 1, 0, 0, 1, 1, 0, 0, 1, 1]) (by kernel_rfl) ?_
    refine wc_ev [evC 7 1 3 agg29 f90] .normal h87 [(38, (vP b27 3)), (39, (vL w13 d18.xs.length c14)), (40, (vI ((d18.xs.length : Nat)))), (41, (vI 0))] ?_
    refine wc_block' 2 (subc (bodyOf Tryz.prog 7) [1, 1, 1, 0, 1, 0, 0, 1, 1, 0, 0, 1, 1, 0]) (by kernel_rfl) ?_
    refine wc_loop' (subc (bodyOf Tryz.prog 7) [1, 1, 1, 0, 1, 0, 0, 1, 1, 0, 0, 1, 1, 0, 0]) (by kernel_rfl) (fun n' a' h' => ∃ (kb : Int) (Ot : Nat → Prop) (g1 : Nat → Value), a' = { tmps := #[(Value.int .u8 (n)), (Value.int .u8 (res)), vZ, vZ, (g1 4), (vP b4 0), (vP b27 0), vZ, (vI 3), (g1 9), (g1 10), vZ, vZ, vZ, vZ, vZ, vZ, vZ, vZ, (vP b4 0), (Value.int .u8 (n)), (vA #[(vS d18.name), (vI d18.rt), (vI d18.dl), (vL w13 d18.xs.length c14)]), (vP b4 0), (vA #[(vS d18.name), (vI d18.rt), (vI d18.dl), (vL w13 d18.xs.length c14)]), (vI 0), (vB false), (vB false), (vP b4 0), (vA #[(vS d18.name), (vI d18.rt), (vI d18.dl), (vL w13 d18.xs.length c14)]), (vI 0), (vB false), (vB false), (vL (some ⟨b76, 0, none⟩) 2 2), (vI 2), (vI 1), (vB true), (vP b76 1), (vI 3), (vP b27 3), (vL w13 d18.xs.length c14), (vI ((d18.xs.length : Nat))), (vI kb), (g1 42), (g1 43), (g1 44), (g1 45), (g1 46), (g1 47), (g1 48), (g1 49), (g1 50), (g1 51), (g1 52), (g1 53), (g1 54), (g1 55), (g1 56), (g1 57), (g1 58), (g1 59), (g1 60), (g1 61), (g1 62), (g1 63), (g1 64), (vI 1), vZ, vZ, vZ, vZ, vZ, vZ, vZ, vZ, vZ, vZ, vZ, vZ, vZ, vZ, vZ, vZ, vZ, vZ, vZ, vZ, vZ, vZ, vZ, vZ, vZ, vZ, vZ, vZ, vZ, vZ, vZ, vZ, vZ, vZ, vZ, vZ, vZ, vZ, vZ, vZ, vZ, vZ, vZ, vZ, vZ, vZ, vZ, vZ, vZ, vZ, vZ, vZ, vZ, vZ, vZ, vZ, vZ, vZ, vZ, vZ, vZ, vZ, vZ, vZ, vZ, vZ, vZ, vZ, vZ, vZ, vZ, vZ, vZ, vZ, vZ, vZ, vZ, vZ, vZ, vZ, vZ, vZ, vZ, vZ, vZ, vZ, vZ, vZ, vZ, vZ, vZ, vZ, vZ], defers := [] } ∧ Ext h h' ∧ n' = d18.xs.length - kb.toNat ∧ h'[b27]? = some (.cells #[(vS d18.name), (vI d18.rt), (vI d18.dl), (vL w13 d18.xs.length c14)] 31 (0, 0)) ∧ h'[b76]? = some (.cells #[(vI 1), (vI 3)] 3 (0, 0)) ∧ (0 ≤ kb ∧ kb ≤ d18.xs.length) ∧ (∀ zz, Ot zz → h.size ≤ zz) ∧ WfT (T2 (ES d18 1 0 0) (EP d18 2 kb)) ∧ (∀ zz, Ot zz → ¬ (blk (vL w13 d18.xs.length c14)) zz) ∧ TbAt 57 h' Ot b4 (T2 (ES d18 1 0 0) (EP d18 2 kb)) ∧ OwnAt h' 67 stepc d18.xs (vL w13 d18.xs.length c14)) ?_ (d18.xs.length - (0 : Int).toNat) ⟨0, Ot, (fun i => ([vU, vU, vU, vU, (g0 4), vU, vU, vU, vU, (g0 9), (g0 10), vU, vU, vU, vU, vU, vU, vU, vU, vU, vU, vU, vU, vU, vU, vU, vU, vU, vU, vU, vU, vU, vU, vU, vU, vU, vU, vU, vU, vU, vU, vU, (vB false), (g0 43), (g0 44), (g0 45), (g0 46), (g0 47), (g0 48), (g0 49), (g0 50), (g0 51), (g0 52), (g0 53), (g0 54), (g0 55), (g0 56), (g0 57), (g0 58), (g0 59), (g0 60), (g0 61), (g0 62), (g0 63), (g0 64)] : List Value).getD i undef), by as_aux_lemma => kernel_rfl, x88, rfl, f90, f91, by omega, i93, (by have q9 := i94; rw [(show EP d18 1 ka = EP d18 2 0 by rw [EP_end (by omega), EP_lt (by omega)]; rfl)] at q9; exact q9), i95, (by have q9 := p96; rw [(show EP d18 1 ka = EP d18 2 0 by rw [EP_end (by omega), EP_lt (by omega)]; rfl)] at q9; exact q9), p97⟩
    rintro n' _ h182 ⟨kb, Ot, g1, rfl, x183, m184, f185, f186, i187, i188, i189, i190, p191, p192⟩
    by_cases c193 : ((kb) : Int) < ((d18.xs.length : Nat))
    · obtain ⟨b194, eb195⟩ : ∃ zq, zq = h182.size := ⟨_, rfl⟩
      obtain ⟨h196, e197⟩ : ∃ zq, zq = h182.push (.cells #[(vI 0), (vI 0), (vI 0)] 33 (0, 0)) := ⟨_, rfl⟩
      have f198 := push_new e197
      rw [← eb195] at f198
      have n199 : b194 ≠ b27 := by have := row_lt f185; omega
      have n200 : b194 ≠ b76 := by have := row_lt f186; omega
      have n201 : ∀ zz, Ot zz → ¬ zz = b194 := fun zz hz ez => by have := p191.blk_lt hz; omega
      have n202 : ∀ zz, (blk (Value.slice w13 (d18.xs.length) (c14))) zz → ¬ zz = b194 := fun zz hz ez => by have := p192.blk_lt hz; omega
      have x203 : Ext h182 h196 := by rw [e197]; exact Ext.push _ _
      have o204 : h.size ≤ b194 := by have := x183.size; omega
      have f205 := x203 _ _ f185
      have f206 := x203 _ _ f186
      have p207 := p191.keep fun b r _ q => x203 b r q
      have p208 := p192.keep fun b r _ q => x203 b r q
      have x209 := x183.trans x203
      obtain ⟨h210, e211⟩ : ∃ zq, zq = h196.setIfInBounds b194 (.cells #[(vI 2), (vI (kb)), (vI 3)] 33 (0, 0)) := ⟨_, rfl⟩
      have f212 := set_same e211 f198
      have f213 := set_other e211 f205 n199
      have f214 := set_other e211 f206 n200
      have p215 := p207.keep fun b r hb q => (Chg.set e211).same b r q (n201 b hb)
      have p216 := p208.keep fun b r hb q => (Chg.set e211).same b r q (n202 b hb)
      have x217 := Ext.setNew x209 e211 o204
      obtain ⟨b218, eb219⟩ : ∃ zq, zq = h210.size := ⟨_, rfl⟩
      obtain ⟨h220, e221⟩ : ∃ zq, zq = h210.push (.cells #[(vI 1), (vI 0), (vI 1), (vI 2), (vI (kb)), (vI 3)] 33 (0, 0)) := ⟨_, rfl⟩
      have f222 := push_new e221
      rw [← eb219] at f222
      have x223 : Ext h210 h220 := by rw [e221]; exact Ext.push _ _
      have o224 : h.size ≤ b218 := by have := x217.size; omega
      have f225 := x223 _ _ f213
      have f226 := x223 _ _ f214
      have f227 := x223 _ _ f212
      have p228 := p215.keep fun b r _ q => x223 b r q
      have p229 := p216.keep fun b r _ q => x223 b r q
      have x230 := x217.trans x223
      obtain ⟨_, h231, s232, w233, c234, rfl, o235, x236, n237⟩ := tnext_ok h220 p228 i189 (x230 _ _ hg0) (x230 _ _ hg1)
      have e238 : (nxtL (T2 (ES d18 1 0 0) (EP d18 2 kb))) = ([⟨1, 0, 1⟩, ⟨2, kb, 3⟩] : List EffM) := by rw [(show EP d18 2 kb = ES d18 2 kb 0 from EP_lt (by omega))]; rfl
      rw [e238] at s232 o235 n237
      have z239 : ([⟨1, 0, 1⟩, ⟨2, kb, 3⟩] : List EffM).length = 2 := rfl
      have f240 := x236 _ _ f225
      have f241 := x236 _ _ f226
      have f242 := x236 _ _ f227
      have f243 := x236 _ _ f222
      have p244 := p228.keep fun b r _ q => x236 b r q
      have p245 := p229.keep fun b r _ q => x236 b r q
      have x246 := x230.trans x236
      have z247 : h.size ≤ h220.size := x230.size
      have o248 : ∀ zz, blk (Value.slice w233 (([⟨1, 0, 1⟩, ⟨2, kb, 3⟩] : List EffM).length) (c234)) zz → h.size ≤ zz := fun zz hz => by have := n237 zz hz; omega
      obtain ⟨_, _, s249, rfl, rfl⟩ := eqE_ok h231 ([⟨1, 0, 1⟩, ⟨2, kb, 3⟩] : List EffM) ([(EffM.mk 1 0 1), (EffM.mk 2 (kb) 3)] : List EffM) _ _ _ _ (o235.slice effc_size) (sl_row (xs := ([(EffM.mk 1 0 1), (EffM.mk 2 (kb) 3)] : List EffM)) f243 effc_size (by kernel_rfl) rfl) (by simp only [List.length_cons, List.length_nil]; decide)
      obtain ⟨_, h250, s251, rfl, x252⟩ := quiet_ok h231 p244 i189 (x246 _ _ hg0) (x246 _ _ hg1)
      have f253 := x252 _ _ f240
      have f254 := x252 _ _ f241
      have f255 := x252 _ _ f242
      have p256 := p244.keep fun b r _ q => x252 b r q
      have p257 := p245.keep fun b r _ q => x252 b r q
      have x258 := x246.trans x252
      have e259 : quietT (T2 (ES d18 1 0 0) (EP d18 2 kb)) = false := by rw [(show EP d18 2 kb = ES d18 2 kb 0 from EP_lt (by omega))]; rfl
      rw [e259] at s251
      obtain ⟨_, h260, s261, rfl, x262, O6055, p263, o264⟩ := tresult_ok h250 p256 i189 2 2 (kb) 3 0 0 (x258 _ _ hg0) (x258 _ _ hg1)
      have k265 := WfT.res i189 2 2 (kb) 3 0 0
      have q266 := T2_r2 (a := ES d18 1 0 0) (b := EP d18 2 kb) (e2 := (kb)) (e3 := 3) (res := 0) (now := 0) (E := 0) (by rw [(show EP d18 2 kb = ES d18 2 kb 0 from EP_lt (by omega))]; exact resE_at (ES_ok k20 (by omega) (by omega) (by omega)) (by omega) (show (2 : Int) < 4 by decide) ⟨rfl, rfl, rfl⟩)
      have e267 : resTE (T2 (ES d18 1 0 0) (EP d18 2 kb)) 2 2 (kb) 3 0 0 = 0 := q266.1
      rw [e267] at s261
      have e268 : (resTM (T2 (ES d18 1 0 0) (EP d18 2 kb)) 2 2 (kb) 3 0 0) = (T2 (ES d18 1 0 0) (EP d18 2 (kb + 1))) := by rw [q266.2.1 rfl, (show EP d18 2 kb = ES d18 2 kb 0 from EP_lt (by omega)), ES_fre (by omega)]
      rw [e268] at p263 k265
      have z269 : h.size ≤ h250.size := x258.size
      have x270 : Ext h _ := (Chg.then (O := fun _ => False) (Chg.ext x258) x262 (fun b hb => .inr (i188 b hb))).toExt'
      have f271 := x262.same _ _ f253 (fun hb => p256.ne f253 (by decide) (by decide) _ hb rfl)
      have f272 := x262.same _ _ f254 (fun hb => p256.ne f254 (by decide) (by decide) _ hb rfl)
      have p273 := p257.keep fun b r hb q => x262.same b r q ((fun b hb hb2 => i190 b hb2 hb) b hb)
      have z274 : h.size ≤ h250.size := x258.size
      have n275 : ∀ zz, O6055 zz → ¬ (blk (Value.slice w13 (d18.xs.length) (c14))) zz := fun zz hz ez => by rcases o264 zz hz with g | g; (exact i190 _ g ez); have := p257.blk_lt ez; omega
      have o276 : ∀ zz, O6055 zz → h.size ≤ zz := fun zz hz => by rcases o264 zz hz with g | g; (exact i188 zz g); omega
      refine wc_ev [ltT 8 0 3 c193, evA 10 3 eb195 e197, evUw 10 4 size33 f198 e211, evLw 11 3 agg33 size33 f212, evS 11 4 2 eb219 e221, evF 11 1 s232, evLw 99 0 agg33 size33 f242, evFt 11 5 (show ([⟨1, 0, 1⟩, ⟨2, kb, 3⟩] : List EffM) = ([(EffM.mk 1 0 1), (EffM.mk 2 (kb) 3)] : List EffM) by rfl) s249, evF 11 9 s251, evLw 11 13 agg33 size33 f255, evF 11 14 s261, evV 13 0 (vI ((kb) + 1)) (show binA Tryz.prog .add 3 (vI kb) (vI 1) = some (vI ((kb) + 1)) from add_i64 (by omega) (by omega))] .normal h260 [(42, (vB true)), (43, (vI kb)), (9, (vI kb)), (44, (vI kb)), (45, (vI 3)), (46, (vA #[(vI 2), (vI kb), (vI 3)])), (10, (vP b194 0)), (47, (vP b4 0)), (49, (vA #[(vI 1), (vI 0), (vI 1)])), (50, (vA #[(vI 2), (vI kb), (vI 3)])), (51, (vL (some ⟨b218, 0, none⟩) 2 2)), (48, (vL w233 (([⟨1, 0, 1⟩, ⟨2, kb, 3⟩] : List EffM).length) c234)), (52, (vB true)), (53, (vB false)), (54, (vB false)), (55, (vP b4 0)), (56, (vB false)), (57, (vB false)), (58, (vB false)), (59, (vP b4 0)), (60, (vA #[(vI 2), (vI kb), (vI 3)])), (61, (vI 0)), (62, (vB false)), (63, (vB false)), (64, (vI ((kb) + 1))), (41, (vI ((kb) + 1)))] ?_
      exact ⟨d18.xs.length - (kb + 1).toNat, by omega, ⟨kb + 1, O6055, (fun i => ([vU, vU, vU, vU, (g1 4), vU, vU, vU, vU, (vI kb), (vP b194 0), vU, vU, vU, vU, vU, vU, vU, vU, vU, vU, vU, vU, vU, vU, vU, vU, vU, vU, vU, vU, vU, vU, vU, vU, vU, vU, vU, vU, vU, vU, vU, (vB true), (vI kb), (vI kb), (vI 3), (vA #[(vI 2), (vI kb), (vI 3)]), (vP b4 0), (vL w233 (([⟨1, 0, 1⟩, ⟨2, kb, 3⟩] : List EffM).length) c234), (vA #[(vI 1), (vI 0), (vI 1)]), (vA #[(vI 2), (vI kb), (vI 3)]), (vL (some ⟨b218, 0, none⟩) 2 2), (vB true), (vB false), (vB false), (vP b4 0), (vB false), (vB false), (vB false), (vP b4 0), (vA #[(vI 2), (vI kb), (vI 3)]), (vI 0), (vB false), (vB false), (vI ((kb) + 1))] : List Value).getD i undef), by as_aux_lemma => kernel_rfl, x270, rfl, f271, f272, by omega, o276, k265, n275, p263, p273⟩⟩
    · refine wc_ev [ltF 8 0 3 c193] (.exit 2) h182 [(42, (vB false))] ?_
      refine wc_ev [] .normal h182 [(65, (vI 2)), (34, (vI 2))] ?_
      refine wc_once (subc (bodyOf Tryz.prog 7) [1, 1, 1, 0, 1, 0, 0]) rfl ?_
      refine wc_seq' (subc (bodyOf Tryz.prog 7) [1, 1, 1, 0, 1, 0, 0, 0]) (subc (bodyOf Tryz.prog 7) [1, 1, 1, 0, 1, 0, 0, 1]) (by kernel_rfl) ?_
      refine wc_ev [] .normal h182 [(35, (vB false))] ?_
      refine wc_seq' (subc (bodyOf Tryz.prog 7) [1, 1, 1, 0, 1, 0, 0, 1, 0]) (subc (bodyOf Tryz.prog 7) [1, 1, 1, 0, 1, 0, 0, 1, 1]) (by kernel_rfl) ?_
      refine wc_ev [] (.exit 0) h182 [] ?_
      refine wc_seq' (subc (bodyOf Tryz.prog 7) [1, 1, 1, 1, 0]) (subc (bodyOf Tryz.prog 7) [1, 1, 1, 1, 1]) (by kernel_rfl) ?_
      obtain ⟨v277, h278, s279, p280, p281, x282⟩ := tget_ok h182 p191 i189 2
      have p283 := p191.keep fun b r _ q => x282 b r q
      have x284 := x183.trans x282
      obtain ⟨s4, es4⟩ : ∃ q : SagaM, q = ES d18 4 0 0 := ⟨_, rfl⟩
      have : s4.st = 4 := by rw [es4]; rfl
      have : s4.d.xs.length = d18.xs.length := by rw [es4]; rfl
      have c285 : getE (T2 (ES d18 1 0 0) (EP d18 2 kb)) 2 = 0 := by rw [(show EP d18 2 kb = ES d18 4 0 0 from EP_end (by omega))]; rfl
      obtain ⟨w286, c287, p288, o289, n290⟩ := p281 c285
      have f291 := getE_zero c285
      have c292 := ((i189).at f291).1
      have e293 : (getS (T2 (ES d18 1 0 0) (EP d18 2 kb)) 2) = s4 := by rw [(show EP d18 2 kb = ES d18 4 0 0 from EP_end (by omega))]; rw [es4]; rfl
      rw [e293] at p288 o289 n290 c292 f291
      have z294 : h.size ≤ h182.size := x183.size
      have n295 : ∀ zz, blk (Value.slice w286 (s4.d.xs.length) (c287)) zz → ¬ Ot zz := fun zz hz ez => by have := n290 zz hz; have := p191.blk_lt ez; omega
      have o296 : ∀ zz, blk (Value.slice w286 (s4.d.xs.length) (c287)) zz → h.size ≤ zz := fun zz hz => by have := n290 zz hz; omega
      obtain ⟨b297, eb298⟩ : ∃ zq, zq = h278.size := ⟨_, rfl⟩
      obtain ⟨h299, e300⟩ : ∃ zq, zq = h278.push (.cells #[(vS .empty), (vI 0), (vI 0), (Value.slice none 0 0), (vI 0), (vI 0), (vB false), (vI 0), (vI 0), (vI 0)] 38 (0, 0)) := ⟨_, rfl⟩
      have f301 := push_new e300
      rw [← eb298] at f301
      have n302 : ∀ zz, Ot zz → ¬ zz = b297 := fun zz hz ez => by have := p283.blk_lt hz; omega
      have n303 : ∀ zz, (blk (Value.slice w286 (s4.d.xs.length) (c287))) zz → ¬ zz = b297 := fun zz hz ez => by have := o289.blk_lt hz; omega
      have x304 : Ext h278 h299 := by rw [e300]; exact Ext.push _ _
      have o305 : h.size ≤ b297 := by have := x284.size; omega
      have p306 := p283.keep fun b r _ q => x304 b r q
      have p307 := o289.keep fun b r _ q => x304 b r q
      have x308 := x284.trans x304
      obtain ⟨h309, e310⟩ : ∃ zq, zq = h299.setIfInBounds b297 (.cells #[(vS s4.d.name), (vI (s4.d.rt)), (vI (s4.d.dl)), (Value.slice w286 (s4.d.xs.length) (c287)), (vI (s4.st)), (vI (s4.ix)), (vB s4.cn), (vI (s4.tr)), (vI (s4.bg)), (vI (s4.er))] 38 (0, 0)) := ⟨_, rfl⟩
      have f311 := set_same e310 f301
      have p312 := p306.keep fun b r hb q => (Chg.set e310).same b r q (n302 b hb)
      have p313 := p307.keep fun b r hb q => (Chg.set e310).same b r q (n303 b hb)
      have x314 := Ext.setNew x308 e310 o305
      refine wc_ev [evFe 15 1 p288 s279, evA 15 5 eb298 e300, evUw 15 6 size38 f301 e310] .normal h309 [(67, (vP b4 0)), (68, (vT #[(vA #[(vS s4.d.name), (vI s4.d.rt), (vI s4.d.dl), (vL w286 s4.d.xs.length c287), (vI s4.st), (vI s4.ix), (vB s4.cn), (vI s4.tr), (vI s4.bg), (vI s4.er)]), (vI 0)])), (66, (vT #[(vA #[(vS s4.d.name), (vI s4.d.rt), (vI s4.d.dl), (vL w286 s4.d.xs.length c287), (vI s4.st), (vI s4.ix), (vB s4.cn), (vI s4.tr), (vI s4.bg), (vI s4.er)]), (vI 0)])), (69, (vA #[(vS s4.d.name), (vI s4.d.rt), (vI s4.d.dl), (vL w286 s4.d.xs.length c287), (vI s4.st), (vI s4.ix), (vB s4.cn), (vI s4.tr), (vI s4.bg), (vI s4.er)])), (70, (vI 0)), (11, (vP b297 0)), (12, (vI 0))] ?_
      refine wc_seq' (subc (bodyOf Tryz.prog 7) [1, 1, 1, 1, 1, 0]) (subc (bodyOf Tryz.prog 7) [1, 1, 1, 1, 1, 1]) (by kernel_rfl) ?_
      by_cases c315 : ((s4.st) : Int) = 4
      · obtain ⟨_, h316, s317, w318, c319, rfl, o320, x321, n322⟩ := open_ok h309 p312 i189 (x314 _ _ hg0) (x314 _ _ hg1)
        have e323 : (opnL (T2 (ES d18 1 0 0) (EP d18 2 kb))) = ([1] : List Int) := by rw [(show EP d18 2 kb = ES d18 4 0 0 from EP_end (by omega))]; rfl
        rw [e323] at s317 o320 n322
        have z324 : ([1] : List Int).length = 1 := rfl
        have f325 := x321 _ _ f311
        have p326 := p312.keep fun b r _ q => x321 b r q
        have p327 := p313.keep fun b r _ q => x321 b r q
        have x328 := x314.trans x321
        have z329 : h.size ≤ h309.size := x314.size
        have o330 : ∀ zz, blk (Value.slice w318 (([1] : List Int).length) (c319)) zz → h.size ≤ zz := fun zz hz => by have := n322 zz hz; omega
        obtain ⟨b331, eb332⟩ : ∃ zq, zq = h316.size := ⟨_, rfl⟩
        obtain ⟨h333, e334⟩ : ∃ zq, zq = h316.push (.cells #[(vI 1)] 3 (0, 0)) := ⟨_, rfl⟩
        have f335 := push_new e334
        rw [← eb332] at f335
        have x336 : Ext h316 h333 := by rw [e334]; exact Ext.push _ _
        have o337 : h.size ≤ b331 := by have := x328.size; omega
        have f338 := x336 _ _ f325
        have p339 := p326.keep fun b r _ q => x336 b r q
        have p340 := p327.keep fun b r _ q => x336 b r q
        have p341 := o320.keep fun b r _ q => x336 b r q
        have x342 := x328.trans x336
        obtain ⟨_, _, s343, rfl, rfl⟩ := eqI_ok h333 ([1] : List Int) ([1] : List Int) _ _ _ _ (p341.slice zc_size) (sl_row (xs := ([1] : List Int)) f335 zc_size (by kernel_rfl) rfl) (by simp only [List.length_cons, List.length_nil]; decide)
        refine wc_ev [evC 16 4 4 agg3 f311, neF 16 5 3 c315, evF 16 9 s317, evS 16 10 1 eb332 e334, evFt 16 11 (Eq.refl _) s343] .normal h333 [(71, (vI 0)), (72, (vB false)), (73, (vB false)), (74, (vP b297 4)), (75, (vI s4.st)), (76, (vB false)), (77, (vB false)), (78, (vB false)), (79, (vP b4 0)), (80, (vL w318 (([1] : List Int).length) c319)), (81, (vL (some ⟨b331, 0, none⟩) 1 1)), (82, (vB true)), (83, (vB false)), (84, (vB false))] ?_
        refine wc_act { tmps := #[(Value.int .u8 (n)), (Value.int .u8 (res)), vZ, vZ, (g1 4), (vP b4 0), (vP b27 0), vZ, (vI 3), (g1 9), (g1 10), (vP b297 0), (vI 0), vZ, vZ, vZ, vZ, vZ, vZ, (vP b4 0), (Value.int .u8 (n)), (vA #[(vS d18.name), (vI d18.rt), (vI d18.dl), (vL w13 d18.xs.length c14)]), (vP b4 0), (vA #[(vS d18.name), (vI d18.rt), (vI d18.dl), (vL w13 d18.xs.length c14)]), (vI 0), (vB false), (vB false), (vP b4 0), (vA #[(vS d18.name), (vI d18.rt), (vI d18.dl), (vL w13 d18.xs.length c14)]), (vI 0), (vB false), (vB false), (vL (some ⟨b76, 0, none⟩) 2 2), (vI 2), (vI 2), (vB false), (vP b76 1), (vI 3), (vP b27 3), (vL w13 d18.xs.length c14), (vI ((d18.xs.length : Nat))), (vI kb), (vB false), (g1 43), (g1 44), (g1 45), (g1 46), (g1 47), (g1 48), (g1 49), (g1 50), (g1 51), (g1 52), (g1 53), (g1 54), (g1 55), (g1 56), (g1 57), (g1 58), (g1 59), (g1 60), (g1 61), (g1 62), (g1 63), (g1 64), (vI 2), (vT #[(vA #[(vS s4.d.name), (vI s4.d.rt), (vI s4.d.dl), (vL w286 s4.d.xs.length c287), (vI s4.st), (vI s4.ix), (vB s4.cn), (vI s4.tr), (vI s4.bg), (vI s4.er)]), (vI 0)]), (vP b4 0), (vT #[(vA #[(vS s4.d.name), (vI s4.d.rt), (vI s4.d.dl), (vL w286 s4.d.xs.length c287), (vI s4.st), (vI s4.ix), (vB s4.cn), (vI s4.tr), (vI s4.bg), (vI s4.er)]), (vI 0)]), (vA #[(vS s4.d.name), (vI s4.d.rt), (vI s4.d.dl), (vL w286 s4.d.xs.length c287), (vI s4.st), (vI s4.ix), (vB s4.cn), (vI s4.tr), (vI s4.bg), (vI s4.er)]), (vI 0), (vI 0), (vB false), (vB false), (vP b297 4), (vI s4.st), (vB false), (vB false), (vB false), (vP b4 0), (vL w318 (([1] : List Int).length) c319), (vL (some ⟨b331, 0, none⟩) 1 1), (vB true), (vB false), (vB false), vZ, vZ, vZ, vZ, vZ, vZ, vZ, vZ, vZ, vZ, vZ, vZ, vZ, vZ, vZ, vZ, vZ, vZ, vZ, vZ, vZ, vZ, vZ, vZ, vZ, vZ, vZ, vZ, vZ, vZ, vZ, vZ, vZ, vZ, vZ, vZ, vZ, vZ, vZ, vZ, vZ, vZ, vZ, vZ, vZ, vZ, vZ, vZ, vZ, vZ, vZ, vZ, vZ, vZ, vZ, vZ, vZ, vZ, vZ, vZ, vZ, vZ, vZ, vZ, vZ, vZ, vZ, vZ, vZ, vZ, vZ, vZ, vZ, vZ], defers := [] } (by as_aux_lemma => kernel_rfl) ?_
        refine wc_seq' (subc (bodyOf Tryz.prog 7) [1, 1, 1, 1, 1, 1, 0]) (subc (bodyOf Tryz.prog 7) [1, 1, 1, 1, 1, 1, 1]) (by kernel_rfl) ?_
        have t344 : 0 ≤ Int.tmod (res) 15 ∧ Int.tmod (res) 15 < 15 := ⟨Int.tmod_nonneg _ (by omega), Int.tmod_lt_of_pos _ (by omega)⟩
        refine wc_ev [evV 18 1 (Value.int .u8 (Int.tmod (res) 15)) (show binA Tryz.prog .rem 5 (Value.int .u8 (res)) (Value.int .u8 15) = some (Value.int .u8 (Int.tmod (res) 15)) from rem_int (by omega)), evV 18 2 (Value.int .u8 (1 + (Int.tmod (res) 15))) (show binA Tryz.prog .add 5 (Value.int .u8 1) (Value.int .u8 (Int.tmod (res) 15)) = some (Value.int .u8 (1 + (Int.tmod (res) 15))) from add_u8 (by omega) (by omega)), evV 18 3 (vI (1 + (Int.tmod (res) 15))) (show (vI (1 + (Int.tmod (res) 15))) = (vI (IntKind.i64.wrap (1 + (Int.tmod (res) 15)))) from by congr 1; rw [IntKind.wrap_i64]; omega)] .normal h333 [(85, (Value.int .u8 (res))), (86, (Value.int .u8 (Int.tmod (res) 15))), (87, (Value.int .u8 (1 + (Int.tmod (res) 15)))), (88, (vI (1 + (Int.tmod (res) 15)))), (13, (vI (1 + (Int.tmod (res) 15))))] ?_
        refine wc_seq' (subc (bodyOf Tryz.prog 7) [1, 1, 1, 1, 1, 1, 1, 0]) (subc (bodyOf Tryz.prog 7) [1, 1, 1, 1, 1, 1, 1, 1]) (by kernel_rfl) ?_
        obtain ⟨_, h345, s346, rfl, x347, O6193, p348, o349⟩ := tresult_ok h333 p339 i189 1 1 0 1 (1 + (Int.tmod (res) 15)) 0 (x342 _ _ hg0) (x342 _ _ hg1)
        have k350 := WfT.res i189 1 1 0 1 (1 + (Int.tmod (res) 15)) 0
        obtain ⟨bad, ebad⟩ : ∃ q : Int, q = (1 + (Int.tmod (res) 15)) := ⟨_, rfl⟩
        have hbad : 1 ≤ bad ∧ bad ≤ 15 := by omega
        have q351 := T2_r1 (a := ES d18 1 0 0) (b := EP d18 2 kb) (e2 := 0) (e3 := 1) (res := bad) (now := 0) (E := 0) (resE_at (ES_ok k20 (by omega) (by omega) (by omega)) (by omega) (show (1 : Int) < 4 by decide) ⟨rfl, rfl, rfl⟩)
        have e352 : resTE (T2 (ES d18 1 0 0) (EP d18 2 kb)) 1 1 0 1 (1 + (Int.tmod (res) 15)) 0 = 0 := by rw [← ebad]; exact q351.1
        rw [e352] at s346
        have e353 : (resTM (T2 (ES d18 1 0 0) (EP d18 2 kb)) 1 1 0 1 (1 + (Int.tmod (res) 15)) 0) = (T2 (ES d18 5 0 bad) (ES d18 4 0 0)) := by rw [← ebad, q351.2.1 rfl, ES_bad hbad, (show EP d18 2 kb = ES d18 4 0 0 from EP_end (by omega))]
        rw [e353] at p348 k350
        have z354 : h.size ≤ h333.size := x342.size
        have x355 : Ext h _ := (Chg.then (O := fun _ => False) (Chg.ext x342) x347 (fun b hb => .inr (i188 b hb))).toExt'
        have f356 := x347.same _ _ f338 (fun hb => n302 _ hb rfl)
        have p357 := p340.keep fun b r hb q => x347.same b r q (n295 b hb)
        have z358 : h.size ≤ h333.size := x342.size
        have n359 : ∀ zz, O6193 zz → ¬ zz = b297 := fun zz hz ez => by rcases o349 zz hz with g | g; (exact n302 _ g ez); have := row_lt f338; omega
        have n360 : ∀ zz, O6193 zz → ¬ (blk (Value.slice w286 (s4.d.xs.length) (c287))) zz := fun zz hz ez => by rcases o349 zz hz with g | g; (exact n295 _ ez g); have := p340.blk_lt ez; omega
        have o361 : ∀ zz, O6193 zz → h.size ≤ zz := fun zz hz => by rcases o349 zz hz with g | g; (exact i188 zz g); omega
        refine wc_ev [evF 19 3 s346] .normal h345 [(89, (vP b4 0)), (90, (vA #[(vI 1), (vI 0), (vI 1)])), (91, (vI (1 + (Int.tmod (res) 15)))), (92, (vI 0)), (93, (vB false))] ?_
        refine wc_seq' (subc (bodyOf Tryz.prog 7) [1, 1, 1, 1, 1, 1, 1, 1, 0]) (subc (bodyOf Tryz.prog 7) [1, 1, 1, 1, 1, 1, 1, 1, 1]) (by kernel_rfl) ?_
        obtain ⟨v362, h363, s364, p365, p366, x367⟩ := tget_ok h345 p348 k350 1
        have f368 := x367 _ _ f356
        have p369 := p348.keep fun b r _ q => x367 b r q
        have p370 := p357.keep fun b r _ q => x367 b r q
        have x371 := x355.trans x367
        obtain ⟨s5, es5⟩ : ∃ q : SagaM, q = ES d18 5 0 bad := ⟨_, rfl⟩
        have : s5.st = 5 := by rw [es5]; rfl
        have : s5.d.xs.length = d18.xs.length := by rw [es5]; rfl
        have : s5.er = bad := by rw [es5]; rfl
        have c372 : getE (T2 (ES d18 5 0 bad) (ES d18 4 0 0)) 1 = 0 := by rfl
        obtain ⟨w373, c374, p375, o376, n377⟩ := p366 c372
        have f378 := getE_zero c372
        have c379 := ((k350).at f378).1
        have e380 : (getS (T2 (ES d18 5 0 bad) (ES d18 4 0 0)) 1) = s5 := by rw [es5]; rfl
        rw [e380] at p375 o376 n377 c379 f378
        have z381 : h.size ≤ h345.size := x355.size
        have o382 : ∀ zz, blk (Value.slice w373 (s5.d.xs.length) (c374)) zz → h.size ≤ zz := fun zz hz => by have := n377 zz hz; omega
        obtain ⟨b383, eb384⟩ : ∃ zq, zq = h363.size := ⟨_, rfl⟩
        obtain ⟨h385, e386⟩ : ∃ zq, zq = h363.push (.cells #[(vS .empty), (vI 0), (vI 0), (Value.slice none 0 0), (vI 0), (vI 0), (vB false), (vI 0), (vI 0), (vI 0)] 38 (0, 0)) := ⟨_, rfl⟩
        have f387 := push_new e386
        rw [← eb384] at f387
        have n388 : b383 ≠ b297 := by have := row_lt f368; omega
        have n389 : ∀ zz, O6193 zz → ¬ zz = b383 := fun zz hz ez => by have := p369.blk_lt hz; omega
        have n390 : ∀ zz, (blk (Value.slice w286 (s4.d.xs.length) (c287))) zz → ¬ zz = b383 := fun zz hz ez => by have := p370.blk_lt hz; omega
        have x391 : Ext h363 h385 := by rw [e386]; exact Ext.push _ _
        have o392 : h.size ≤ b383 := by have := x371.size; omega
        have f393 := x391 _ _ f368
        have p394 := p369.keep fun b r _ q => x391 b r q
        have p395 := p370.keep fun b r _ q => x391 b r q
        have x396 := x371.trans x391
        obtain ⟨h397, e398⟩ : ∃ zq, zq = h385.setIfInBounds b383 (.cells #[(vS s5.d.name), (vI (s5.d.rt)), (vI (s5.d.dl)), (Value.slice w373 (s5.d.xs.length) (c374)), (vI (s5.st)), (vI (s5.ix)), (vB s5.cn), (vI (s5.tr)), (vI (s5.bg)), (vI (s5.er))] 38 (0, 0)) := ⟨_, rfl⟩
        have f399 := set_same e398 f387
        have f400 := set_other e398 f393 n388
        have p401 := p394.keep fun b r hb q => (Chg.set e398).same b r q (n389 b hb)
        have p402 := p395.keep fun b r hb q => (Chg.set e398).same b r q (n390 b hb)
        have x403 := Ext.setNew x396 e398 o392
        refine wc_ev [evFe 21 1 p375 s364, evA 21 5 eb384 e386, evUw 21 6 size38 f387 e398] .normal h397 [(95, (vP b4 0)), (96, (vT #[(vA #[(vS s5.d.name), (vI s5.d.rt), (vI s5.d.dl), (vL w373 s5.d.xs.length c374), (vI s5.st), (vI s5.ix), (vB s5.cn), (vI s5.tr), (vI s5.bg), (vI s5.er)]), (vI 0)])), (94, (vT #[(vA #[(vS s5.d.name), (vI s5.d.rt), (vI s5.d.dl), (vL w373 s5.d.xs.length c374), (vI s5.st), (vI s5.ix), (vB s5.cn), (vI s5.tr), (vI s5.bg), (vI s5.er)]), (vI 0)])), (97, (vA #[(vS s5.d.name), (vI s5.d.rt), (vI s5.d.dl), (vL w373 s5.d.xs.length c374), (vI s5.st), (vI s5.ix), (vB s5.cn), (vI s5.tr), (vI s5.bg), (vI s5.er)])), (98, (vI 0)), (14, (vP b383 0)), (15, (vI 0))] ?_
        refine wc_seq' (subc (bodyOf Tryz.prog 7) [1, 1, 1, 1, 1, 1, 1, 1, 1, 0]) (subc (bodyOf Tryz.prog 7) [1, 1, 1, 1, 1, 1, 1, 1, 1, 1]) (by kernel_rfl) ?_
        by_cases c404 : ((s5.st) : Int) = 5
        · by_cases c405 : ((s5.er) : Int) = (1 + (Int.tmod (res) 15))
          · obtain ⟨_, h406, s407, rfl, x408⟩ := quiet_ok h397 p401 k350 (x403 _ _ hg0) (x403 _ _ hg1)
            have f409 := x408 _ _ f400
            have p410 := p401.keep fun b r _ q => x408 b r q
            have p411 := p402.keep fun b r _ q => x408 b r q
            have x412 := x403.trans x408
            have e413 : quietT (T2 (ES d18 5 0 bad) (ES d18 4 0 0)) = true := rfl
            rw [e413] at s407
            obtain ⟨_, h414, s415, w416, c417, rfl, o418, x419, n420⟩ := tnext_ok h406 p410 k350 (x412 _ _ hg0) (x412 _ _ hg1)
            have e421 : (nxtL (T2 (ES d18 5 0 bad) (ES d18 4 0 0))) = ([] : List EffM) := rfl
            rw [e421] at s415 o418 n420
            have z422 : ([] : List EffM).length = 0 := rfl
            have f423 := x419 _ _ f409
            have p424 := p410.keep fun b r _ q => x419 b r q
            have p425 := p411.keep fun b r _ q => x419 b r q
            have x426 := x412.trans x419
            have z427 : h.size ≤ h406.size := x412.size
            have o428 : ∀ zz, blk (Value.slice w416 (([] : List EffM).length) (c417)) zz → h.size ≤ zz := fun zz hz => by have := n420 zz hz; omega
            by_cases c429 : (((([] : List EffM).length : Nat)) : Int) = 0
            · obtain ⟨_, h430, s431, rfl, x432⟩ := len_ok h414 p424 k350
              have f433 := x432 _ _ f423
              have p434 := p424.keep fun b r _ q => x432 b r q
              have p435 := p425.keep fun b r _ q => x432 b r q
              have x436 := x426.trans x432
              have e437 : (((T2 (ES d18 5 0 bad) (ES d18 4 0 0)).length : Nat) : Int) = 2 := rfl
              rw [e437] at s431
              refine wc_ev [evC 22 4 4 agg3 f399, neF 22 5 3 c404, evC 22 9 9 agg34 f399, neF 22 11 34 c405, evF 22 15 s407, evF 22 20 s415, neF 22 22 3 c429, evF 22 26 s431] .normal h430 [(99, (vI 0)), (100, (vB false)), (101, (vB false)), (102, (vP b383 4)), (103, (vI s5.st)), (104, (vB false)), (105, (vB false)), (106, (vB false)), (107, (vP b383 9)), (108, (vI s5.er)), (109, (vI (1 + (Int.tmod (res) 15)))), (110, (vB false)), (111, (vB false)), (112, (vB false)), (113, (vP b4 0)), (114, (vB true)), (115, (vB false)), (116, (vB false)), (117, (vB false)), (118, (vP b4 0)), (119, (vL w416 (([] : List EffM).length) c417)), (120, (vI ((([] : List EffM).length : Nat)))), (121, (vB false)), (122, (vB false)), (123, (vB false)), (124, (vP b4 0)), (125, (vI 2)), (126, (vB false)), (127, (vB false))] ?_
              refine wc_act { tmps := #[(Value.int .u8 (n)), (Value.int .u8 (res)), vZ, vZ, (g1 4), (vP b4 0), (vP b27 0), vZ, (vI 3), (g1 9), (g1 10), (vP b297 0), (vI 0), (vI (1 + (Int.tmod (res) 15))), (vP b383 0), (vI 0), vZ, vZ, vZ, (vP b4 0), (Value.int .u8 (n)), (vA #[(vS d18.name), (vI d18.rt), (vI d18.dl), (vL w13 d18.xs.length c14)]), (vP b4 0), (vA #[(vS d18.name), (vI d18.rt), (vI d18.dl), (vL w13 d18.xs.length c14)]), (vI 0), (vB false), (vB false), (vP b4 0), (vA #[(vS d18.name), (vI d18.rt), (vI d18.dl), (vL w13 d18.xs.length c14)]), (vI 0), (vB false), (vB false), (vL (some ⟨b76, 0, none⟩) 2 2), (vI 2), (vI 2), (vB false), (vP b76 1), (vI 3), (vP b27 3), (vL w13 d18.xs.length c14), (vI ((d18.xs.length : Nat))), (vI kb), (vB false), (g1 43), (g1 44), (g1 45), (g1 46), (g1 47), (g1 48), (g1 49), (g1 50), (g1 51), (g1 52), (g1 53), (g1 54), (g1 55), (g1 56), (g1 57), (g1 58), (g1 59), (g1 60), (g1 61), (g1 62), (g1 63), (g1 64), (vI 2), (vT #[(vA #[(vS s4.d.name), (vI s4.d.rt), (vI s4.d.dl), (vL w286 s4.d.xs.length c287), (vI s4.st), (vI s4.ix), (vB s4.cn), (vI s4.tr), (vI s4.bg), (vI s4.er)]), (vI 0)]), (vP b4 0), (vT #[(vA #[(vS s4.d.name), (vI s4.d.rt), (vI s4.d.dl), (vL w286 s4.d.xs.length c287), (vI s4.st), (vI s4.ix), (vB s4.cn), (vI s4.tr), (vI s4.bg), (vI s4.er)]), (vI 0)]), (vA #[(vS s4.d.name), (vI s4.d.rt), (vI s4.d.dl), (vL w286 s4.d.xs.length c287), (vI s4.st), (vI s4.ix), (vB s4.cn), (vI s4.tr), (vI s4.bg), (vI s4.er)]), (vI 0), (vI 0), (vB false), (vB false), (vP b297 4), (vI s4.st), (vB false), (vB false), (vB false), (vP b4 0), (vL w318 (([1] : List Int).length) c319), (vL (some ⟨b331, 0, none⟩) 1 1), (vB true), (vB false), (vB false), (Value.int .u8 (res)), (Value.int .u8 (Int.tmod (res) 15)), (Value.int .u8 (1 + (Int.tmod (res) 15))), (vI (1 + (Int.tmod (res) 15))), (vP b4 0), (vA #[(vI 1), (vI 0), (vI 1)]), (vI (1 + (Int.tmod (res) 15))), (vI 0), (vB false), (vT #[(vA #[(vS s5.d.name), (vI s5.d.rt), (vI s5.d.dl), (vL w373 s5.d.xs.length c374), (vI s5.st), (vI s5.ix), (vB s5.cn), (vI s5.tr), (vI s5.bg), (vI s5.er)]), (vI 0)]), (vP b4 0), (vT #[(vA #[(vS s5.d.name), (vI s5.d.rt), (vI s5.d.dl), (vL w373 s5.d.xs.length c374), (vI s5.st), (vI s5.ix), (vB s5.cn), (vI s5.tr), (vI s5.bg), (vI s5.er)]), (vI 0)]), (vA #[(vS s5.d.name), (vI s5.d.rt), (vI s5.d.dl), (vL w373 s5.d.xs.length c374), (vI s5.st), (vI s5.ix), (vB s5.cn), (vI s5.tr), (vI s5.bg), (vI s5.er)]), (vI 0), (vI 0), (vB false), (vB false), (vP b383 4), (vI s5.st), (vB false), (vB false), (vB false), (vP b383 9), (vI s5.er), (vI (1 + (Int.tmod (res) 15))), (vB false), (vB false), (vB false), (vP b4 0), (vB true), (vB false), (vB false), (vB false), (vP b4 0), (vL w416 (([] : List EffM).length) c417), (vI ((([] : List EffM).length : Nat))), (vB false), (vB false), (vB false), (vP b4 0), (vI 2), (vB false), (vB false), vZ, vZ, vZ, vZ, vZ, vZ, vZ, vZ, vZ, vZ, vZ, vZ, vZ, vZ, vZ, vZ, vZ, vZ, vZ, vZ, vZ, vZ, vZ, vZ, vZ, vZ, vZ, vZ, vZ, vZ, vZ], defers := [] } (by as_aux_lemma => kernel_rfl) ?_
              refine wc_seq' (subc (bodyOf Tryz.prog 7) [1, 1, 1, 1, 1, 1, 1, 1, 1, 1, 0]) (subc (bodyOf Tryz.prog 7) [1, 1, 1, 1, 1, 1, 1, 1, 1, 1, 1]) (by kernel_rfl) ?_
              refine wc_seq' (subc (bodyOf Tryz.prog 7) [1, 1, 1, 1, 1, 1, 1, 1, 1, 1, 0, 0]) (subc (bodyOf Tryz.prog 7) [1, 1, 1, 1, 1, 1, 1, 1, 1, 1, 0, 1]) (by kernel_rfl) ?_
              refine wc_ev [] .normal h430 [(16, (vI 1))] ?_
              refine wc_block' 4 (subc (bodyOf Tryz.prog 7) [1, 1, 1, 1, 1, 1, 1, 1, 1, 1, 0, 1, 0]) (by kernel_rfl) ?_
              refine wc_once (subc (bodyOf Tryz.prog 7) [1, 1, 1, 1, 1, 1, 1, 1, 1, 1, 0, 1, 0, 0]) (by kernel_rfl) ?_
              obtain ⟨_, h438, s439, rfl, x440, O6368, p441, o442⟩ := tresult_ok h430 p434 k350 1 1 0 1 0 0 (x436 _ _ hg0) (x436 _ _ hg1)
              have k443 := WfT.res k350 1 1 0 1 0 0
              have q444 := T2_r1 (a := ES d18 5 0 bad) (b := ES d18 4 0 0) (e2 := 0) (e3 := 1) (res := 0) (now := 0) (E := 9) (resE_end (ES_ok k20 (by omega) (by omega) (by omega)) (by omega) (show ¬ (5 : Int) < 4 by decide))
              have e445 : resTE (T2 (ES d18 5 0 bad) (ES d18 4 0 0)) 1 1 0 1 0 0 = 9 := q444.1
              rw [e445] at s439
              have e446 : (resTM (T2 (ES d18 5 0 bad) (ES d18 4 0 0)) 1 1 0 1 0 0) = (T2 (ES d18 5 0 bad) (ES d18 4 0 0)) := q444.2.2 (by decide)
              rw [e446] at p441 k443
              have z447 : h.size ≤ h430.size := x436.size
              have x448 : Ext h _ := (Chg.then (O := fun _ => False) (Chg.ext x436) x440 (fun b hb => .inr (o361 b hb))).toExt'
              have f449 := x440.same _ _ f433 (fun hb => n359 _ hb rfl)
              have p450 := p435.keep fun b r hb q => x440.same b r q ((fun b hb hb2 => n360 b hb2 hb) b hb)
              have z451 : h.size ≤ h430.size := x436.size
              have n452 : ∀ zz, O6368 zz → ¬ zz = b297 := fun zz hz ez => by rcases o442 zz hz with g | g; (exact n359 _ g ez); have := row_lt f433; omega
              have n453 : ∀ zz, O6368 zz → ¬ (blk (Value.slice w286 (s4.d.xs.length) (c287))) zz := fun zz hz ez => by rcases o442 zz hz with g | g; (exact n360 _ g ez); have := p435.blk_lt ez; omega
              have o454 : ∀ zz, O6368 zz → h.size ≤ zz := fun zz hz => by rcases o442 zz hz with g | g; (exact o361 zz g); omega
              obtain ⟨_, h455, s456, rfl, x457, O6400, p458, o459⟩ := tcancel_ok h438 p441 k443 1
              have k460 := WfT.can k443 1
              have q461 := T2_can (k := 1) (a := ES d18 5 0 bad) (b := ES d18 4 0 0) (by omega) (canE_end (ES_ok k20 (by omega) (by omega) (by omega)) (show ¬ (5 : Int) < 4 by decide)) (canE_end (ES_ok k20 (by omega) (by omega) (by omega)) (show ¬ (4 : Int) < 4 by decide))
              have e462 : canTE (T2 (ES d18 5 0 bad) (ES d18 4 0 0)) 1 = 9 := q461.1
              rw [e462] at s456
              have e463 : (canTM (T2 (ES d18 5 0 bad) (ES d18 4 0 0)) 1) = (T2 (ES d18 5 0 bad) (ES d18 4 0 0)) := q461.2
              rw [e463] at p458 k460
              have z464 : h.size ≤ h438.size := x448.size
              have x465 : Ext h _ := (Chg.then (O := fun _ => False) (Chg.ext x448) x457 (fun b hb => .inr (o454 b hb))).toExt'
              have f466 := x457.same _ _ f449 (fun hb => n452 _ hb rfl)
              have p467 := p450.keep fun b r hb q => x457.same b r q ((fun b hb hb2 => n453 b hb2 hb) b hb)
              have z468 : h.size ≤ h438.size := x448.size
              have n469 : ∀ zz, O6400 zz → ¬ zz = b297 := fun zz hz ez => by rcases o459 zz hz with g | g; (exact n452 _ g ez); have := row_lt f449; omega
              have n470 : ∀ zz, O6400 zz → ¬ (blk (Value.slice w286 (s4.d.xs.length) (c287))) zz := fun zz hz ez => by rcases o459 zz hz with g | g; (exact n453 _ g ez); have := p450.blk_lt ez; omega
              have o471 : ∀ zz, O6400 zz → h.size ≤ zz := fun zz hz => by rcases o459 zz hz with g | g; (exact o454 zz g); omega
              refine wc_ev [evF 27 4 s439, evF 27 9 s456] .normal h455 [(128, (vI 1)), (129, (vB true)), (132, (vP b4 0)), (133, (vI 1)), (134, (vI 1)), (135, (vA #[(vI 1), (vI 0), (vI 1)])), (136, (vI 9)), (137, (vB false)), (138, (vB false)), (139, (vP b4 0)), (140, (vI 1)), (141, (vI 9)), (142, (vB false)), (143, (vB false)), (130, (vI 1)), (131, (vI 2)), (16, (vI 2))] ?_
              refine wc_once (subc (bodyOf Tryz.prog 7) [1, 1, 1, 1, 1, 1, 1, 1, 1, 1, 0, 1, 0, 0]) rfl ?_
              obtain ⟨_, h472, s473, rfl, x474, O6432, p475, o476⟩ := tresult_ok h455 p458 k460 2 2 0 1 0 0 (x465 _ _ hg0) (x465 _ _ hg1)
              have k477 := WfT.res k460 2 2 0 1 0 0
              have q478 := T2_r2 (a := ES d18 5 0 bad) (b := ES d18 4 0 0) (e2 := 0) (e3 := 1) (res := 0) (now := 0) (E := 9) (resE_end (ES_ok k20 (by omega) (by omega) (by omega)) (by omega) (show ¬ (4 : Int) < 4 by decide))
              have e479 : resTE (T2 (ES d18 5 0 bad) (ES d18 4 0 0)) 2 2 0 1 0 0 = 9 := q478.1
              rw [e479] at s473
              have e480 : (resTM (T2 (ES d18 5 0 bad) (ES d18 4 0 0)) 2 2 0 1 0 0) = (T2 (ES d18 5 0 bad) (ES d18 4 0 0)) := q478.2.2 (by decide)
              rw [e480] at p475 k477
              have z481 : h.size ≤ h455.size := x465.size
              have x482 : Ext h _ := (Chg.then (O := fun _ => False) (Chg.ext x465) x474 (fun b hb => .inr (o471 b hb))).toExt'
              have f483 := x474.same _ _ f466 (fun hb => n469 _ hb rfl)
              have p484 := p467.keep fun b r hb q => x474.same b r q ((fun b hb hb2 => n470 b hb2 hb) b hb)
              have z485 : h.size ≤ h455.size := x465.size
              have n486 : ∀ zz, O6432 zz → ¬ zz = b297 := fun zz hz ez => by rcases o476 zz hz with g | g; (exact n469 _ g ez); have := row_lt f466; omega
              have n487 : ∀ zz, O6432 zz → ¬ (blk (Value.slice w286 (s4.d.xs.length) (c287))) zz := fun zz hz ez => by rcases o476 zz hz with g | g; (exact n470 _ g ez); have := p467.blk_lt ez; omega
              have o488 : ∀ zz, O6432 zz → h.size ≤ zz := fun zz hz => by rcases o476 zz hz with g | g; (exact o471 zz g); omega
              obtain ⟨_, h489, s490, rfl, x491, O6464, p492, o493⟩ := tcancel_ok h472 p475 k477 2
              have k494 := WfT.can k477 2
              have q495 := T2_can (k := 2) (a := ES d18 5 0 bad) (b := ES d18 4 0 0) (by omega) (canE_end (ES_ok k20 (by omega) (by omega) (by omega)) (show ¬ (5 : Int) < 4 by decide)) (canE_end (ES_ok k20 (by omega) (by omega) (by omega)) (show ¬ (4 : Int) < 4 by decide))
              have e496 : canTE (T2 (ES d18 5 0 bad) (ES d18 4 0 0)) 2 = 9 := q495.1
              rw [e496] at s490
              have e497 : (canTM (T2 (ES d18 5 0 bad) (ES d18 4 0 0)) 2) = (T2 (ES d18 5 0 bad) (ES d18 4 0 0)) := q495.2
              rw [e497] at p492 k494
              have z498 : h.size ≤ h472.size := x482.size
              have x499 : Ext h _ := (Chg.then (O := fun _ => False) (Chg.ext x482) x491 (fun b hb => .inr (o488 b hb))).toExt'
              have f500 := x491.same _ _ f483 (fun hb => n486 _ hb rfl)
              have p501 := p484.keep fun b r hb q => x491.same b r q ((fun b hb hb2 => n487 b hb2 hb) b hb)
              have z502 : h.size ≤ h472.size := x482.size
              have o503 : ∀ zz, O6464 zz → h.size ≤ zz := fun zz hz => by rcases o493 zz hz with g | g; (exact o488 zz g); omega
              refine wc_ev [evF 27 4 s473, evF 27 9 s490] .normal h489 [(128, (vI 2)), (129, (vB true)), (132, (vP b4 0)), (133, (vI 2)), (134, (vI 2)), (135, (vA #[(vI 2), (vI 0), (vI 1)])), (136, (vI 9)), (137, (vB false)), (138, (vB false)), (139, (vP b4 0)), (140, (vI 2)), (141, (vI 9)), (142, (vB false)), (143, (vB false)), (130, (vI 2)), (131, (vI 3)), (16, (vI 3))] ?_
              refine wc_once (subc (bodyOf Tryz.prog 7) [1, 1, 1, 1, 1, 1, 1, 1, 1, 1, 0, 1, 0, 0]) rfl ?_
              refine wc_act { tmps := #[(Value.int .u8 (n)), (Value.int .u8 (res)), vZ, vZ, (g1 4), (vP b4 0), (vP b27 0), vZ, (vI 3), (g1 9), (g1 10), (vP b297 0), (vI 0), (vI (1 + (Int.tmod (res) 15))), (vP b383 0), (vI 0), (vI 3), vZ, vZ, (vP b4 0), (Value.int .u8 (n)), (vA #[(vS d18.name), (vI d18.rt), (vI d18.dl), (vL w13 d18.xs.length c14)]), (vP b4 0), (vA #[(vS d18.name), (vI d18.rt), (vI d18.dl), (vL w13 d18.xs.length c14)]), (vI 0), (vB false), (vB false), (vP b4 0), (vA #[(vS d18.name), (vI d18.rt), (vI d18.dl), (vL w13 d18.xs.length c14)]), (vI 0), (vB false), (vB false), (vL (some ⟨b76, 0, none⟩) 2 2), (vI 2), (vI 2), (vB false), (vP b76 1), (vI 3), (vP b27 3), (vL w13 d18.xs.length c14), (vI ((d18.xs.length : Nat))), (vI kb), (vB false), (g1 43), (g1 44), (g1 45), (g1 46), (g1 47), (g1 48), (g1 49), (g1 50), (g1 51), (g1 52), (g1 53), (g1 54), (g1 55), (g1 56), (g1 57), (g1 58), (g1 59), (g1 60), (g1 61), (g1 62), (g1 63), (g1 64), (vI 2), (vT #[(vA #[(vS s4.d.name), (vI s4.d.rt), (vI s4.d.dl), (vL w286 s4.d.xs.length c287), (vI s4.st), (vI s4.ix), (vB s4.cn), (vI s4.tr), (vI s4.bg), (vI s4.er)]), (vI 0)]), (vP b4 0), (vT #[(vA #[(vS s4.d.name), (vI s4.d.rt), (vI s4.d.dl), (vL w286 s4.d.xs.length c287), (vI s4.st), (vI s4.ix), (vB s4.cn), (vI s4.tr), (vI s4.bg), (vI s4.er)]), (vI 0)]), (vA #[(vS s4.d.name), (vI s4.d.rt), (vI s4.d.dl), (vL w286 s4.d.xs.length c287), (vI s4.st), (vI s4.ix), (vB s4.cn), (vI s4.tr), (vI s4.bg), (vI s4.er)]), (vI 0), (vI 0), (vB false), (vB false), (vP b297 4), (vI s4.st), (vB false), (vB false), (vB false), (vP b4 0), (vL w318 (([1] : List Int).length) c319), (vL (some ⟨b331, 0, none⟩) 1 1), (vB true), (vB false), (vB false), (Value.int .u8 (res)), (Value.int .u8 (Int.tmod (res) 15)), (Value.int .u8 (1 + (Int.tmod (res) 15))), (vI (1 + (Int.tmod (res) 15))), (vP b4 0), (vA #[(vI 1), (vI 0), (vI 1)]), (vI (1 + (Int.tmod (res) 15))), (vI 0), (vB false), (vT #[(vA #[(vS s5.d.name), (vI s5.d.rt), (vI s5.d.dl), (vL w373 s5.d.xs.length c374), (vI s5.st), (vI s5.ix), (vB s5.cn), (vI s5.tr), (vI s5.bg), (vI s5.er)]), (vI 0)]), (vP b4 0), (vT #[(vA #[(vS s5.d.name), (vI s5.d.rt), (vI s5.d.dl), (vL w373 s5.d.xs.length c374), (vI s5.st), (vI s5.ix), (vB s5.cn), (vI s5.tr), (vI s5.bg), (vI s5.er)]), (vI 0)]), (vA #[(vS s5.d.name), (vI s5.d.rt), (vI s5.d.dl), (vL w373 s5.d.xs.length c374), (vI s5.st), (vI s5.ix), (vB s5.cn), (vI s5.tr), (vI s5.bg), (vI s5.er)]), (vI 0), (vI 0), (vB false), (vB false), (vP b383 4), (vI s5.st), (vB false), (vB false), (vB false), (vP b383 9), (vI s5.er), (vI (1 + (Int.tmod (res) 15))), (vB false), (vB false), (vB false), (vP b4 0), (vB true), (vB false), (vB false), (vB false), (vP b4 0), (vL w416 (([] : List EffM).length) c417), (vI ((([] : List EffM).length : Nat))), (vB false), (vB false), (vB false), (vP b4 0), (vI 2), (vB false), (vB false), (vI 2), (vB true), (vI 2), (vI 3), (vP b4 0), (vI 2), (vI 2), (vA #[(vI 2), (vI 0), (vI 1)]), (vI 9), (vB false), (vB false), (vP b4 0), (vI 2), (vI 9), (vB false), (vB false), vZ, vZ, vZ, vZ, vZ, vZ, vZ, vZ, vZ, vZ, vZ, vZ, vZ, vZ, vZ], defers := [] } (by as_aux_lemma => kernel_rfl) ?_
              refine wc_ev [] (.exit 4) h489 [(128, (vI 3)), (129, (vB false))] ?_
              obtain ⟨v504, h505, s506, p507, p508, x509⟩ := tget_ok h489 p492 k494 2
              have f510 := x509 _ _ f500
              have p511 := p501.keep fun b r _ q => x509 b r q
              have x512 := x499.trans x509
              have c513 : getE (T2 (ES d18 5 0 bad) (ES d18 4 0 0)) 2 = 0 := by rfl
              obtain ⟨w514, c515, p516, o517, n518⟩ := p508 c513
              have f519 := getE_zero c513
              have c520 := ((k494).at f519).1
              have e521 : (getS (T2 (ES d18 5 0 bad) (ES d18 4 0 0)) 2) = s4 := by rw [es4]; rfl
              rw [e521] at p516 o517 n518 c520 f519
              have z522 : h.size ≤ h489.size := x499.size
              have o523 : ∀ zz, blk (Value.slice w514 (s4.d.xs.length) (c515)) zz → h.size ≤ zz := fun zz hz => by have := n518 zz hz; omega
              obtain ⟨b524, eb525⟩ : ∃ zq, zq = h505.size := ⟨_, rfl⟩
              obtain ⟨h526, e527⟩ : ∃ zq, zq = h505.push (.cells #[(vS .empty), (vI 0), (vI 0), (Value.slice none 0 0), (vI 0), (vI 0), (vB false), (vI 0), (vI 0), (vI 0)] 38 (0, 0)) := ⟨_, rfl⟩
              have f528 := push_new e527
              rw [← eb525] at f528
              have n529 : b524 ≠ b297 := by have := row_lt f510; omega
              have n530 : ∀ zz, (blk (Value.slice w286 (s4.d.xs.length) (c287))) zz → ¬ zz = b524 := fun zz hz ez => by have := p511.blk_lt hz; omega
              have n531 : ∀ zz, (blk (Value.slice w514 (s4.d.xs.length) (c515))) zz → ¬ zz = b524 := fun zz hz ez => by have := o517.blk_lt hz; omega
              have x532 : Ext h505 h526 := by rw [e527]; exact Ext.push _ _
              have o533 : h.size ≤ b524 := by have := x512.size; omega
              have f534 := x532 _ _ f510
              have p535 := p511.keep fun b r _ q => x532 b r q
              have p536 := o517.keep fun b r _ q => x532 b r q
              have x537 := x512.trans x532
              obtain ⟨h538, e539⟩ : ∃ zq, zq = h526.setIfInBounds b524 (.cells #[(vS s4.d.name), (vI (s4.d.rt)), (vI (s4.d.dl)), (Value.slice w514 (s4.d.xs.length) (c515)), (vI (s4.st)), (vI (s4.ix)), (vB s4.cn), (vI (s4.tr)), (vI (s4.bg)), (vI (s4.er))] 38 (0, 0)) := ⟨_, rfl⟩
              have f540 := set_same e539 f528
              have f541 := set_other e539 f534 n529
              have p542 := p535.keep fun b r hb q => (Chg.set e539).same b r q (n530 b hb)
              have p543 := p536.keep fun b r hb q => (Chg.set e539).same b r q (n531 b hb)
              have x544 := Ext.setNew x537 e539 o533
              obtain ⟨_, hh545, sn546, rfl, x547⟩ := lsame_ok h538 s4 _ _ (OwnAt.lat p542 stepc_size (tsz_of size67)) (by omega) _ _ (OwnAt.lat p543 stepc_size (tsz_of size67))
              have x548 := x544.trans x547
              obtain ⟨_, hh549, sn550, rfl, x551⟩ := works_ok hh545 (x548 _ _ hg0) (x548 _ _ hg1)
              have x552 := x548.trans x551
              refine wc_ev [evFe 29 1 p516 s506, evA 29 5 eb525 e527, evUw 29 6 size38 f528 e539, evLw 30 3 agg38 size38 f541, evLw 30 4 agg38 size38 f540, evF 30 5 sn546, evF 30 8 sn550] .ret hh549 [(145, (vP b4 0)), (146, (vT #[(vA #[(vS s4.d.name), (vI s4.d.rt), (vI s4.d.dl), (vL w514 s4.d.xs.length c515), (vI s4.st), (vI s4.ix), (vB s4.cn), (vI s4.tr), (vI s4.bg), (vI s4.er)]), (vI 0)])), (144, (vT #[(vA #[(vS s4.d.name), (vI s4.d.rt), (vI s4.d.dl), (vL w514 s4.d.xs.length c515), (vI s4.st), (vI s4.ix), (vB s4.cn), (vI s4.tr), (vI s4.bg), (vI s4.er)]), (vI 0)])), (147, (vA #[(vS s4.d.name), (vI s4.d.rt), (vI s4.d.dl), (vL w514 s4.d.xs.length c515), (vI s4.st), (vI s4.ix), (vB s4.cn), (vI s4.tr), (vI s4.bg), (vI s4.er)])), (148, (vI 0)), (17, (vP b524 0)), (18, (vI 0)), (149, (vI 0)), (150, (vB true)), (151, (vB true)), (152, (vA #[(vS s4.d.name), (vI s4.d.rt), (vI s4.d.dl), (vL w286 s4.d.xs.length c287), (vI s4.st), (vI s4.ix), (vB s4.cn), (vI s4.tr), (vI s4.bg), (vI s4.er)])), (153, (vA #[(vS s4.d.name), (vI s4.d.rt), (vI s4.d.dl), (vL w514 s4.d.xs.length c515), (vI s4.st), (vI s4.ix), (vB s4.cn), (vI s4.tr), (vI s4.bg), (vI s4.er)])), (154, (vB true)), (155, (vB true)), (156, (vB true)), (157, (vB true)), (158, (vB true)), (4, (vB true))] ?_
              exact end_ev [] (vB true) (hK _ _ (⟨rfl, x552⟩))
            · refine wc_ev [evC 22 4 4 agg3 f399, neF 22 5 3 c404, evC 22 9 9 agg34 f399, neF 22 11 34 c405, evF 22 15 s407, evF 22 20 s415, neT 22 22 3 c429] .ret h414 [(99, (vI 0)), (100, (vB false)), (101, (vB false)), (102, (vP b383 4)), (103, (vI s5.st)), (104, (vB false)), (105, (vB false)), (106, (vB false)), (107, (vP b383 9)), (108, (vI s5.er)), (109, (vI (1 + (Int.tmod (res) 15)))), (110, (vB false)), (111, (vB false)), (112, (vB false)), (113, (vP b4 0)), (114, (vB true)), (115, (vB false)), (116, (vB false)), (117, (vB false)), (118, (vP b4 0)), (119, (vL w416 (([] : List EffM).length) c417)), (120, (vI ((([] : List EffM).length : Nat)))), (121, (vB true)), (122, (vB true)), (123, (vB true)), (124, vZ), (125, vZ), (126, vZ), (127, (vB true)), (4, (vB false))] ?_
              exfalso
              omega
          · refine wc_ev [evC 22 4 4 agg3 f399, neF 22 5 3 c404, evC 22 9 9 agg34 f399, neT 22 11 34 c405] .ret h397 [(99, (vI 0)), (100, (vB false)), (101, (vB false)), (102, (vP b383 4)), (103, (vI s5.st)), (104, (vB false)), (105, (vB false)), (106, (vB false)), (107, (vP b383 9)), (108, (vI s5.er)), (109, (vI (1 + (Int.tmod (res) 15)))), (110, (vB true)), (111, (vB true)), (112, (vB true)), (113, vZ), (114, vZ), (115, vZ), (116, (vB true)), (117, (vB true)), (118, vZ), (119, vZ), (120, vZ), (121, vZ), (122, (vB true)), (123, (vB true)), (124, vZ), (125, vZ), (126, vZ), (127, (vB true)), (4, (vB false))] ?_
            exfalso
            omega
        · refine wc_ev [evC 22 4 4 agg3 f399, neT 22 5 3 c404] .ret h397 [(99, (vI 0)), (100, (vB false)), (101, (vB false)), (102, (vP b383 4)), (103, (vI s5.st)), (104, (vB true)), (105, (vB true)), (106, (vB true)), (107, vZ), (108, vZ), (109, vZ), (110, vZ), (111, (vB true)), (112, (vB true)), (113, vZ), (114, vZ), (115, vZ), (116, (vB true)), (117, (vB true)), (118, vZ), (119, vZ), (120, vZ), (121, vZ), (122, (vB true)), (123, (vB true)), (124, vZ), (125, vZ), (126, vZ), (127, (vB true)), (4, (vB false))] ?_
          exfalso
          omega
      · refine wc_ev [evC 16 4 4 agg3 f311, neT 16 5 3 c315] .ret h309 [(71, (vI 0)), (72, (vB false)), (73, (vB false)), (74, (vP b297 4)), (75, (vI s4.st)), (76, (vB true)), (77, (vB true)), (78, (vB true)), (79, vZ), (80, vZ), (81, vZ), (82, vZ), (83, vZ), (84, (vB true)), (4, (vB false))] ?_
        exfalso
        omega
end C29
