/- The run of SagasPlays. -/
import Derived.Test.YtjkcadbblgefdaaGreatDoorRy
import Derived.Test.YtjkcadbblgefdaaGreatDoorXc
import Derived.KernelRfl
open Go Go.AM Go.Proofs
namespace C29
/-- A table that was copied and the document's, or none. -/
def OldAt (T T2 E:TypeId) (h:Heap) (O:Nat→Prop) (ov wv:Value):Prop:=(∀ z,O z→z < h.size)∧((ov=.pointer none∧wv=.pointer none) ∨ ∃ t r m O1 O2,ov=.pointer (some ⟨t,0,none⟩)∧wv=.pointer (some ⟨r,0,none⟩)∧TbAt T h O1 t m∧RfAt T2 E h O2 r m∧WfT m∧(∀ z,O1 z→O z)∧∀ z,O2 z→O z)
section
variable {T T2 E : TypeId} {h h1 : Heap} {O : Nat → Prop} {ov wv : Value}
theorem OldAt.blk_lt (k:OldAt T T2 E h O ov wv) {b:Nat} (hb:O b):b < h.size:=k.1 b hb
theorem OldAt.keep (k:OldAt T T2 E h O ov wv) (w:∀ b r,O b→h[b]?=some r→h1[b]?=some r):OldAt T T2 E h1 O ov wv:=by
 refine ⟨fun z hz=>?_,k.2.imp id fun ⟨t,r,m,O1,O2,e1,e2,p1,p2,ok,f1,f2⟩=>⟨t,r,m,O1,O2,e1,e2,p1.keep fun b q hb=>w b q (f1 b hb),p2.keep fun b q hb=>w b q (f2 b hb),ok,f1,f2⟩⟩
 have:=w z _ hz (Array.getElem?_eq_getElem (k.1 z hz))
 exact (Array.getElem?_eq_some_iff.1 this).1
theorem OldAt.start:OldAt T T2 E h (fun _=>False) (.pointer none) (.pointer none):=⟨fun _ w=>w.elim,.inl ⟨rfl,rfl⟩⟩
theorem OldAt.of {t r:Nat} {m:Tab} {O1 O2:Nat→Prop} (p1:TbAt T h O1 t m) (p2:RfAt T2 E h O2 r m) (ok:WfT m):OldAt T T2 E h (fun z=>O1 z ∨ O2 z) (.pointer (some ⟨t,0,none⟩)) (.pointer (some ⟨r,0,none⟩)) :=
 ⟨fun _ w=>w.elim p1.blk_lt p2.blk_lt,.inr ⟨t,r,m,O1,O2,rfl,rfl,p1,p2,ok,fun _=>.inl,fun _=>.inr⟩⟩
theorem OldAt.cases (k:OldAt T T2 E h O ov wv):ov=.pointer none ∨ ∃ t,ov=.pointer (some ⟨t,0,none⟩):=by
 rcases k.2 with ⟨e,_⟩ | ⟨t,_,_,_,_,e,_⟩
 ·exact .inl e
 ·exact .inr ⟨t,e⟩
end
theorem shows_old {h:Heap} {O:Nat→Prop} {ov wv:Value} (k:OldAt 57 96 105 h O ov wv) {t:Nat} (e:ov=.pointer (some ⟨t,0,none⟩)) (n:Int) (hg0:h[0]?=some (.cells #[(vI 0),(vI 1),(vI 3),(vI 2)] 128 (0,0))) (hg1:h[1]?=some (.cells #[Value.nilFunc,(Value.func (.func 178) #[] #[]),(Value.func (.func 179) #[] #[]),(Value.func (.func 180) #[] #[])] 130 (0,0))):WCall Tryz.prog 26 #[ov,wv,vI n] h (fun v h1=>v=.bool true∧Ext h h1):=by
 rcases k.2 with ⟨e1,_⟩ | ⟨t',r,m,O1,O2,e1,e2,p1,p2,ok,_,_⟩
 ·rw [e1] at e; cases e
 ·rw [e1,e2]; exact shows_ok h p1 p2 ok n hg0 hg1
theorem uwrap_rng (n:Int):0≤IntKind.u64.wrap n∧IntKind.u64.wrap n≤18446744073709551615:=by rw [IntKind.wrap_u64]; omega
theorem nxt_rng {m:Tab} (w:WfT m) {j:Nat} {x:EffM} (h:(nxtL m)[j]?=some x):1≤x.sg∧x.sg≤9999:=by
 unfold nxtL at h
 obtain ⟨p,hp,rfl⟩:=List.mem_map.1 (List.mem_of_getElem? h)
 unfold opnT at hp
 exact w.ids p (List.mem_filter.1 hp).1
theorem wc_cut {P:Program} {ro:Option Nat} {c:Code} {a:Act} {h:Heap} {K:Exit→Act→Heap→Prop} (d e:Code) (hc:c=.seq d e) (J:Act→Heap→Prop) (h1:WCode P ro d a h fun x a1 h1=>match x with | .normal=>J a1 h1 | x=>K x a1 h1) (h2:∀ a1 h1,J a1 h1→WCode P ro e a1 h1 K):WCode P ro c a h K:=by
 subst hc
 refine wc_seq (h1.mono fun x a1 h1 q=>?_)
 cases x with
 | normal=>exact h2 a1 h1 q
 | _=>exact q
set_option maxRecDepth 10000 in
set_option maxHeartbeats 4000000 in
theorem law_plays (h:Heap) (l:List StpM) (sa:Option Addr) (cp:Nat) (hl:LAt h stpc 21 l (.slice sa l.length cp)) (hlen:l.length≤9223372036854775807) (hq:∀ x ∈ l,POk h x) (id:Int) (_hid : -9223372036854775808≤id∧id≤9223372036854775807) (hg0:h[0]?=some (.cells #[(vI 0),(vI 1),(vI 3),(vI 2)] 128 (0,0))) (hg1:h[1]?=some (.cells #[Value.nilFunc,(Value.func (.func 178) #[] #[]),(Value.func (.func 179) #[] #[]),(Value.func (.func 180) #[] #[])] 130 (0,0))):WCall Tryz.prog 3 #[(Value.slice sa (l.length) (cp)),(vI (id))] h (fun v h1=>v=.bool true∧Ext h h1):=by
 refine wcall_by fun K hK=>?_
 refine wcall_at { tmps:=#[(vL sa l.length cp),(vI id),vZ,vZ,vZ,vZ,vZ,vZ,vZ,vZ,vZ,vZ,vZ,vZ,vZ,vZ,vZ,vZ,vZ,vZ,vZ,vZ,vZ,vZ,vZ,vZ,vZ,vZ,vZ,vZ,vZ,vZ,vZ,vZ,vZ,vZ,vZ,vZ,vZ,vZ,vZ,vZ,vZ,vZ,vZ,vZ,vZ,vZ,vZ,vZ,vZ,vZ,vZ,vZ,vZ,vZ,vZ,vZ,vZ,vZ,vZ,vZ,vZ,vZ,vZ,vZ,vZ,vZ,vZ,vZ,vZ,vZ,vZ,vZ,vZ,vZ,vZ,vZ,vZ,vZ,vZ,vZ,vZ,vZ,vZ,vZ,vZ,vZ,vZ,vZ,vZ,vZ,vZ,vZ,vZ,vZ,vZ,vZ,vZ,vZ,vZ,vZ,vZ,vZ,vZ,vZ,vZ,vZ,vZ,vZ,vZ,vZ,vZ,vZ,vZ,vZ,vZ,vZ,vZ,vZ,vZ,vZ,vZ,vZ,vZ,vZ,vZ,vZ,vZ,vZ,vZ,vZ,vZ,vZ,vZ,vZ,vZ,vZ,vZ,vZ,vZ,vZ,vZ,vZ,vZ,vZ,vZ,vZ,vZ,vZ,vZ,vZ,vZ,vZ,vZ,vZ,vZ,vZ,vZ,vZ,vZ,vZ,vZ,vZ,vZ],defers:=[] } (by kernel_rfl) ?_
 refine wc_seq' (subc (bodyOf Tryz.prog 3) [0]) (subc (bodyOf Tryz.prog 3) [1]) (by kernel_rfl) ?_
 refine wc_ev [] .normal h [(4,(vB false))] ?_ (by intro K'; kernel_rfl)
 refine wc_seq' (subc (bodyOf Tryz.prog 3) [1,0]) (subc (bodyOf Tryz.prog 3) [1,1]) (by kernel_rfl) ?_
 obtain ⟨_,h2,s3,q4,rfl,u5,x6⟩:=few_ok h l _ _ hl hlen hq
 have x7:=(Ext.refl h).trans x6
 rcases Bool.eq_false_or_eq_true (q4) with c8 | c8
 ·have fw9:=u5 c8
  refine wc_ev [evFb 1 1 c8 s3] .normal h2 [(15,(vL sa l.length cp)),(16,(vB true)),(17,(vB false))] ?_ (by intro K'; kernel_rfl)
  refine wc_seq' (subc (bodyOf Tryz.prog 3) [1,1,0]) (subc (bodyOf Tryz.prog 3) [1,1,1]) (by kernel_rfl) ?_
  obtain ⟨_,h10,s11,b12,O14805,rfl,p13,x14,w15⟩:=tnew_ok h2
  have x16:=x7.trans x14
  have z17:h.size≤h2.size:=x7.size
  have o18:∀ zz,O14805 zz→h.size≤zz:=fun zz hz=>by have:=w15 zz hz; omega
  obtain ⟨_,h19,s20,b21,O14818,rfl,p22,x23,w24⟩:=rnew_ok h10
  have p25:=p13.keep fun b r _ q=>x23 b r q
  have x26:=x16.trans x23
  have z27:h.size≤h10.size:=x16.size
  have n28:∀ zz,O14818 zz→¬ O14805 zz:=fun zz hz ez=>by have:=w24 zz hz; have:=p13.blk_lt ez; omega
  have o29:∀ zz,O14818 zz→h.size≤zz:=fun zz hz=>by have:=w24 zz hz; omega
  refine wc_ev [evF 3 0 s11,evF 3 1 s20] .normal h19 [(19,(vP b12 0)),(20,(vP b21 0)),(5,(vP b12 0)),(6,(vP b21 0))] ?_ (by intro K'; kernel_rfl)
  refine wc_seq' (subc (bodyOf Tryz.prog 3) [1,1,1,0]) (subc (bodyOf Tryz.prog 3) [1,1,1,1]) (by kernel_rfl) ?_
  refine wc_ev [] .normal h19 [(7,vN)] ?_ (by intro K'; kernel_rfl)
  refine wc_seq' (subc (bodyOf Tryz.prog 3) [1,1,1,1,0]) (subc (bodyOf Tryz.prog 3) [1,1,1,1,1]) (by kernel_rfl) ?_
  refine wc_ev [] .normal h19 [(8,vN)] ?_ (by intro K'; kernel_rfl)
  refine wc_seq' (subc (bodyOf Tryz.prog 3) [1,1,1,1,1,0]) (subc (bodyOf Tryz.prog 3) [1,1,1,1,1,1]) (by kernel_rfl) ?_
  refine wc_seq' (subc (bodyOf Tryz.prog 3) [1,1,1,1,1,0,0]) (subc (bodyOf Tryz.prog 3) [1,1,1,1,1,0,1]) (by kernel_rfl) ?_
  refine wc_ev [] .normal h19 [(21,(vL sa l.length cp)),(22,(vI ((l.length:Nat)))),(23,(vI 0))] ?_ (by intro K'; kernel_rfl)
  refine wc_block' 0 (subc (bodyOf Tryz.prog 3) [1,1,1,1,1,0,1,0]) (by kernel_rfl) ?_
  refine wc_loop' (subc (bodyOf Tryz.prog 3) [1,1,1,1,1,0,1,0,0]) (by kernel_rfl) (fun n' a' h'=>∃ (k:Int) (m:Tab) (t:Nat) (r:Nat) (Ot:Nat→Prop) (Or:Nat→Prop) (Oo:Nat→Prop) (ov:Value) (wv:Value) (g0:Nat→Value),a'={ tmps:=#[(vL sa l.length cp),(vI id),vZ,vZ,(g0 4),(vP t 0),(vP r 0),ov,wv,vZ,(g0 10),(g0 11),(g0 12),(g0 13),(g0 14),(vL sa l.length cp),(vB true),(vB false),vZ,(vP b12 0),(vP b21 0),(vL sa l.length cp),(vI ((l.length:Nat))),(vI k),(g0 24),(g0 25),(g0 26),(g0 27),(g0 28),(g0 29),(g0 30),(g0 31),(g0 32),(g0 33),(g0 34),(g0 35),(g0 36),(g0 37),(g0 38),(g0 39),(g0 40),(g0 41),(g0 42),(g0 43),(g0 44),(g0 45),(g0 46),(g0 47),(g0 48),(g0 49),(g0 50),(g0 51),(g0 52),(g0 53),(g0 54),(g0 55),(g0 56),(g0 57),(g0 58),(g0 59),(g0 60),(g0 61),(g0 62),(g0 63),(g0 64),(g0 65),(g0 66),(g0 67),(g0 68),(g0 69),(g0 70),(g0 71),(g0 72),(g0 73),(g0 74),(g0 75),(g0 76),(g0 77),(g0 78),(g0 79),(g0 80),(g0 81),(g0 82),(g0 83),(g0 84),(g0 85),(g0 86),(g0 87),(g0 88),(g0 89),(g0 90),(g0 91),(g0 92),(g0 93),(g0 94),(g0 95),(g0 96),(g0 97),(g0 98),(g0 99),(g0 100),(g0 101),(g0 102),(g0 103),(g0 104),(g0 105),(g0 106),(g0 107),(g0 108),(g0 109),(g0 110),(g0 111),(g0 112),(g0 113),(g0 114),(g0 115),(g0 116),(g0 117),(g0 118),(g0 119),(g0 120),(g0 121),(g0 122),(g0 123),(g0 124),(g0 125),(g0 126),(g0 127),(g0 128),(g0 129),(g0 130),(g0 131),(g0 132),(g0 133),(g0 134),(g0 135),(g0 136),(g0 137),(g0 138),(g0 139),(g0 140),(g0 141),(g0 142),(g0 143),(g0 144),(g0 145),(g0 146),(g0 147),(g0 148),(g0 149),(g0 150),(g0 151),(g0 152),(g0 153),(g0 154),(g0 155),(g0 156),(g0 157),(g0 158),(g0 159),(g0 160),(g0 161),(g0 162),(g0 163),vZ],defers:=[] }∧Ext h h'∧n'=l.length - k.toNat∧(0≤k∧k≤(l.length:Nat))∧WfT m∧(∀ zz,Ot zz→h.size≤zz)∧(∀ zz,Or zz→h.size≤zz)∧(∀ zz,Oo zz→h.size≤zz)∧(∀ zz,Ot zz→¬ Or zz)∧(∀ zz,Ot zz→¬ Oo zz)∧(∀ zz,Or zz→¬ Oo zz)∧TbAt 57 h' Ot t m∧RfAt 96 105 h' Or r m∧OldAt 57 96 105 h' Oo ov wv) ?_ (l.length - (0:Int).toNat) ⟨0,([]:Tab),b12,b21,O14805,O14818,(fun _=>False),vN,vN,(fun i=>([vU,vU,vU,vU,(vB false),vU,vU,vU,vU,vU,vZ,vZ,vZ,vZ,vZ,vU,vU,vU,vU,vU,vU,vU,vU,vU,vZ,vZ,vZ,vZ,vZ,vZ,vZ,vZ,vZ,vZ,vZ,vZ,vZ,vZ,vZ,vZ,vZ,vZ,vZ,vZ,vZ,vZ,vZ,vZ,vZ,vZ,vZ,vZ,vZ,vZ,vZ,vZ,vZ,vZ,vZ,vZ,vZ,vZ,vZ,vZ,vZ,vZ,vZ,vZ,vZ,vZ,vZ,vZ,vZ,vZ,vZ,vZ,vZ,vZ,vZ,vZ,vZ,vZ,vZ,vZ,vZ,vZ,vZ,vZ,vZ,vZ,vZ,vZ,vZ,vZ,vZ,vZ,vZ,vZ,vZ,vZ,vZ,vZ,vZ,vZ,vZ,vZ,vZ,vZ,vZ,vZ,vZ,vZ,vZ,vZ,vZ,vZ,vZ,vZ,vZ,vZ,vZ,vZ,vZ,vZ,vZ,vZ,vZ,vZ,vZ,vZ,vZ,vZ,vZ,vZ,vZ,vZ,vZ,vZ,vZ,vZ,vZ,vZ,vZ,vZ,vZ,vZ,vZ,vZ,vZ,vZ,vZ,vZ,vZ,vZ,vZ,vZ,vZ,vZ,vZ,vZ,vZ,vZ,vZ,vZ]:List Value).getD i undef),by kernel_rfl,x26,rfl,by omega,WfT.nil,o18,o29,(fun _ w=>w.elim),(fun zz hz hz2=>n28 zz hz2 hz),(fun _ _ w=>w),(fun _ _ w=>w),p25,p22,OldAt.start⟩
  rintro n' _ h30 ⟨k,m,t,r,Ot,Or,Oo,ov,wv,g0,rfl,x31,m32,i33,i34,i35,i36,i37,i38,i39,i40,p41,p42,p43⟩
  refine wc_seq' (subc (bodyOf Tryz.prog 3) [1,1,1,1,1,0,1,0,0,0]) (subc (bodyOf Tryz.prog 3) [1,1,1,1,1,0,1,0,0,1]) (by kernel_rfl) ?_
  by_cases c44:((k):Int) < ((l.length:Nat))
  ·refine wc_ev [ltT 7 0 3 c44] .normal h30 [(24,(vB true))] ?_ (by intro K'; kernel_rfl)
   refine wc_seq' (subc (bodyOf Tryz.prog 3) [1,1,1,1,1,0,1,0,0,1,0]) (subc (bodyOf Tryz.prog 3) [1,1,1,1,1,0,1,0,0,1,1]) (by kernel_rfl) ?_
   refine wc_ev [] .normal h30 [] ?_ (by intro K'; kernel_rfl)
   refine wc_seq' (subc (bodyOf Tryz.prog 3) [1,1,1,1,1,0,1,0,0,1,1,0]) (subc (bodyOf Tryz.prog 3) [1,1,1,1,1,0,1,0,0,1,1,1]) (by kernel_rfl) ?_
   refine wc_block' 1 (subc (bodyOf Tryz.prog 3) [1,1,1,1,1,0,1,0,0,1,1,0,0]) (by kernel_rfl) ?_
   refine wc_seq' (subc (bodyOf Tryz.prog 3) [1,1,1,1,1,0,1,0,0,1,1,0,0,0]) (subc (bodyOf Tryz.prog 3) [1,1,1,1,1,0,1,0,0,1,1,0,0,1]) (by kernel_rfl) ?_
   obtain ⟨i45,v46,e47,l48,g49⟩:=list_at l (e:=(k)) (by omega) (by first | omega | (simp only [List.length_set,List.length_append,List.length_singleton]; omega))
   obtain ⟨b50,o51,k52,q53,a54⟩:=(hl.slice stpc_size).at stpc_size g49
   have t55:=hq _ (List.mem_of_getElem? g49)
   have:=t55.nd
   have:=t55.ns
   have:=t55.ri
   have:=t55.re
   have z56:=fw9.2 _ (List.mem_of_getElem? g49)
   unfold FewS at z56
   obtain ⟨b57,eb58⟩:∃ zq,zq=h30.size:=⟨_,rfl⟩
   obtain ⟨h59,e60⟩:∃ zq,zq=h30.push (.cells #[(vI 0),(vI 0),(vI 0),(vS .empty),(vI 0),(vI 0),(Value.slice none 0 0),(vI 0),(vI 0),(vI 0),(vI 0),(vS .empty),(vI 0),(vI 0),(Value.slice none 0 0),(vI 0),(vI 0),(vB false),(vI 0),(vI 0),(vI 0)] 40 (0,0)):=⟨_,rfl⟩
   have f61:=push_new e60
   rw [← eb58] at f61
   have n62:∀ zz,Ot zz→¬ zz=b57:=fun zz hz ez=>by have:=p41.blk_lt hz; omega
   have n63:∀ zz,Or zz→¬ zz=b57:=fun zz hz ez=>by have:=p42.blk_lt hz; omega
   have n64:∀ zz,Oo zz→¬ zz=b57:=fun zz hz ez=>by have:=p43.blk_lt hz; omega
   have x65:Ext h30 h59:=by rw [e60]; exact Ext.push _ _
   have o66:h.size≤b57:=by have:=x31.size; omega
   have p67:=p41.keep fun b r _ q=>x65 b r q
   have p68:=p42.keep fun b r _ q=>x65 b r q
   have p69:=p43.keep fun b r _ q=>x65 b r q
   have x70:=x31.trans x65
   obtain ⟨h71,e72⟩:∃ zq,zq=h59.setIfInBounds b57 (.cells #[(vI (v46.dk)),(vI (v46.id)),(vI (v46.nw)),(vS v46.d.name),(vI (v46.d.rt)),(vI (v46.d.dl)),(Value.slice v46.da (v46.d.xs.length) (v46.dc)),(vI (v46.e1)),(vI (v46.e2)),(vI (v46.e3)),(vI (v46.rs)),(vS v46.s.d.name),(vI (v46.s.d.rt)),(vI (v46.s.d.dl)),(Value.slice v46.sa (v46.s.d.xs.length) (v46.sc)),(vI (v46.s.st)),(vI (v46.s.ix)),(vB v46.s.cn),(vI (v46.s.tr)),(vI (v46.s.bg)),(vI (v46.s.er))] 40 (0,0)):=⟨_,rfl⟩
   have f73:=set_same e72 f61
   have p74:=p67.keep fun b r hb q=>(Chg.set e72).same b r q (n62 b hb)
   have p75:=p68.keep fun b r hb q=>(Chg.set e72).same b r q (n63 b hb)
   have p76:=p69.keep fun b r hb q=>(Chg.set e72).same b r q (n64 b hb)
   have x77:=Ext.setNew x70 e72 o66
   refine wc_ev [evV 8 0 (vP b50 o51) (show indexAddrA Tryz.prog 22 (vL sa l.length cp) (vI k)=some (vP b50 o51) from a54 und22 size40 e47),evV 8 1 (vA #[(vI v46.dk),(vI v46.id),(vI v46.nw),(vS v46.d.name),(vI v46.d.rt),(vI v46.d.dl),(vL v46.da v46.d.xs.length v46.dc),(vI v46.e1),(vI v46.e2),(vI v46.e3),(vI v46.rs),(vS v46.s.d.name),(vI v46.s.d.rt),(vI v46.s.d.dl),(vL v46.sa v46.s.d.xs.length v46.sc),(vI v46.s.st),(vI v46.s.ix),(vB v46.s.cn),(vI v46.s.tr),(vI v46.s.bg),(vI v46.s.er)]) (show loadT Tryz.prog h30 40 (vP b50 o51)=some (vA #[(vI v46.dk),(vI v46.id),(vI v46.nw),(vS v46.d.name),(vI v46.d.rt),(vI v46.d.dl),(vL v46.da v46.d.xs.length v46.dc),(vI v46.e1),(vI v46.e2),(vI v46.e3),(vI v46.rs),(vS v46.s.d.name),(vI v46.s.d.rt),(vI v46.s.d.dl),(vL v46.sa v46.s.d.xs.length v46.sc),(vI v46.s.st),(vI v46.s.ix),(vB v46.s.cn),(vI v46.s.tr),(vI v46.s.bg),(vI v46.s.er)]) from (k52.keep fun b r _ q=>x31 b r q).agg (j:=0) agg40 size40 (show 0 + 21≤21 by decide) (by kernel_rfl)),evA 8 2 eb58 e60,evUw 8 3 size40 f61 e72] .normal h71 [(25,(vP b50 o51)),(26,(vA #[(vI v46.dk),(vI v46.id),(vI v46.nw),(vS v46.d.name),(vI v46.d.rt),(vI v46.d.dl),(vL v46.da v46.d.xs.length v46.dc),(vI v46.e1),(vI v46.e2),(vI v46.e3),(vI v46.rs),(vS v46.s.d.name),(vI v46.s.d.rt),(vI v46.s.d.dl),(vL v46.sa v46.s.d.xs.length v46.sc),(vI v46.s.st),(vI v46.s.ix),(vB v46.s.cn),(vI v46.s.tr),(vI v46.s.bg),(vI v46.s.er)])),(10,(vP b57 0))] ?_ (by intro K'; kernel_rfl)
   refine wc_seq' (subc (bodyOf Tryz.prog 3) [1,1,1,1,1,0,1,0,0,1,1,0,0,1,0]) (subc (bodyOf Tryz.prog 3) [1,1,1,1,1,0,1,0,0,1,1,0,0,1,1]) (by kernel_rfl) ?_
   refine wc_ev [evC 9 1 1 agg3 f73] .normal h71 [(27,(vP b57 1)),(28,(vI v46.id)),(11,(vI v46.id))] ?_ (by intro K'; kernel_rfl)
   refine wc_seq' (subc (bodyOf Tryz.prog 3) [1,1,1,1,1,0,1,0,0,1,1,0,0,1,1,0]) (subc (bodyOf Tryz.prog 3) [1,1,1,1,1,0,1,0,0,1,1,0,0,1,1,1]) (by kernel_rfl) ?_
   refine wc_ev [] .normal h71 [(12,(vB true))] ?_ (by intro K'; kernel_rfl)
   refine wc_cut (subc (bodyOf Tryz.prog 3) [1,1,1,1,1,0,1,0,0,1,1,0,0,1,1,1,0]) (subc (bodyOf Tryz.prog 3) [1,1,1,1,1,0,1,0,0,1,1,0,0,1,1,1,1]) (by kernel_rfl) (fun a' h'=>∃ (m2:Tab) (t2:Nat) (r2:Nat) (Ot2:Nat→Prop) (Or2:Nat→Prop) (Oo2:Nat→Prop) (ov2:Value) (wv2:Value) (nv:Int) (g1:Nat→Value),a'={ tmps:=#[(vL sa l.length cp),(vI id),vZ,vZ,(g0 4),(vP t2 0),(vP r2 0),ov2,wv2,vZ,(vP b57 0),(vI nv),(vB true),(g1 13),(g1 14),(vL sa l.length cp),(vB true),(vB false),vZ,(vP b12 0),(vP b21 0),(vL sa l.length cp),(vI ((l.length:Nat))),(vI k),(vB true),(vP b50 o51),(vA #[(vI v46.dk),(vI v46.id),(vI v46.nw),(vS v46.d.name),(vI v46.d.rt),(vI v46.d.dl),(vL v46.da v46.d.xs.length v46.dc),(vI v46.e1),(vI v46.e2),(vI v46.e3),(vI v46.rs),(vS v46.s.d.name),(vI v46.s.d.rt),(vI v46.s.d.dl),(vL v46.sa v46.s.d.xs.length v46.sc),(vI v46.s.st),(vI v46.s.ix),(vB v46.s.cn),(vI v46.s.tr),(vI v46.s.bg),(vI v46.s.er)]),(vP b57 1),(vI v46.id),(g1 29),(g1 30),(g1 31),(g1 32),(g1 33),(g1 34),(g1 35),(g1 36),(g1 37),(g1 38),(g1 39),(g1 40),(g1 41),(g1 42),(g1 43),(g1 44),(g1 45),(g1 46),(g1 47),(g1 48),(g1 49),(g1 50),(g1 51),(g1 52),(g1 53),(g1 54),(g1 55),(g1 56),(g1 57),(g1 58),(g1 59),(g1 60),(g1 61),(g1 62),(g1 63),(g1 64),(g1 65),(g1 66),(g1 67),(g1 68),(g1 69),(g1 70),(g1 71),(g1 72),(g1 73),(g1 74),(g1 75),(g1 76),(g1 77),(g1 78),(g1 79),(g1 80),(g1 81),(g1 82),(g1 83),(g1 84),(g1 85),(g1 86),(g1 87),(g1 88),(g1 89),(g1 90),(g1 91),(g1 92),(g1 93),(g1 94),(g1 95),(g1 96),(g1 97),(g1 98),(g1 99),(g1 100),(g1 101),(g1 102),(g1 103),(g1 104),(g1 105),(g1 106),(g1 107),(g1 108),(g1 109),(g1 110),(g1 111),(g1 112),(g1 113),(g1 114),(g1 115),(g1 116),(g1 117),(g1 118),(g1 119),(g1 120),(g1 121),(g1 122),(g1 123),(g1 124),(g1 125),(g1 126),(g1 127),(g1 128),(g1 129),(g1 130),(g1 131),(g1 132),(g1 133),(g1 134),(g1 135),(g0 136),(g0 137),(g0 138),(g0 139),(g0 140),(g0 141),(g0 142),(g0 143),(g0 144),(g0 145),(g0 146),(g0 147),(g0 148),(g0 149),(g0 150),(g0 151),(g0 152),(g0 153),(g0 154),(g0 155),(g0 156),(g0 157),(g0 158),(g0 159),(g0 160),(g0 161),(g0 162),(g0 163),vZ],defers:=[] }∧Ext h h'∧WfT m2∧(∀ zz,Ot2 zz→h.size≤zz)∧(∀ zz,Or2 zz→h.size≤zz)∧(∀ zz,Oo2 zz→h.size≤zz)∧(∀ zz,Ot2 zz→¬ Or2 zz)∧(∀ zz,Ot2 zz→¬ Oo2 zz)∧(∀ zz,Or2 zz→¬ Oo2 zz)∧TbAt 57 h' Ot2 t2 m2∧RfAt 96 105 h' Or2 r2 m2∧OldAt 57 96 105 h' Oo2 ov2 wv2) ?_ ?_
   ·by_cases c78:((v46.dk):Int)=0
    ·obtain ⟨_,h79,s80,rfl,x81,O14892,p82,o83⟩:=tstart_ok h71 p74 i34 (v46.id) v46.d _ _ (t55.ld.keep fun b r _ q=>x77 b r q) (by omega) (v46.nw)
     have k84:=WfT.start i34 (v46.id) v46.d (v46.nw)
     have z85:h.size≤h71.size:=x77.size
     have x86:Ext h _:=(Chg.then (O:=fun _=>False) (Chg.ext x77) x81 (fun b hb=>.inr (i35 b hb))).toExt'
     have f87:=x81.same _ _ f73 (fun hb=>n62 _ hb rfl)
     have p88:=p75.keep fun b r hb q=>x81.same b r q ((fun b hb hb2=>i38 b hb2 hb) b hb)
     have p89:=p76.keep fun b r hb q=>x81.same b r q ((fun b hb hb2=>i39 b hb2 hb) b hb)
     have z90:h.size≤h71.size:=x77.size
     have n91:∀ zz,O14892 zz→¬ Or zz:=fun zz hz ez=>by rcases o83 zz hz with g | g; (exact i38 _ g ez); have:=p75.blk_lt ez; omega
     have n92:∀ zz,O14892 zz→¬ Oo zz:=fun zz hz ez=>by rcases o83 zz hz with g | g; (exact i39 _ g ez); have:=p76.blk_lt ez; omega
     have o93:∀ zz,O14892 zz→h.size≤zz:=fun zz hz=>by rcases o83 zz hz with g | g; (exact i35 zz g); omega
     obtain ⟨_,h94,s95,rfl,x96,O14909,p97,o98⟩:=rstartT_ok h79 p88 i34 (v46.id) v46.d _ _ (t55.ld.keep fun b r _ q=>x86 b r q) (by omega) t55.zd.1 t55.zd.2 (v46.nw)
     have k99:=WfT.start i34 (v46.id) v46.d (v46.nw)
     have z100:h.size≤h79.size:=x86.size
     have x101:Ext h _:=(Chg.then (O:=fun _=>False) (Chg.ext x86) x96 (fun b hb=>.inr (i36 b hb))).toExt'
     have p102:=p82.keep fun b r hb q=>x96.same b r q (n91 b hb)
     have p103:=p89.keep fun b r hb q=>x96.same b r q ((fun b hb hb2=>i40 b hb2 hb) b hb)
     have z104:h.size≤h79.size:=x86.size
     have n105:∀ zz,O14909 zz→¬ O14892 zz:=fun zz hz ez=>by rcases o98 zz hz with g | g; (exact n91 _ ez g); have:=p82.blk_lt ez; omega
     have n106:∀ zz,O14909 zz→¬ Oo zz:=fun zz hz ez=>by rcases o98 zz hz with g | g; (exact i40 _ g ez); have:=p89.blk_lt ez; omega
     have o107:∀ zz,O14909 zz→h.size≤zz:=fun zz hz=>by rcases o98 zz hz with g | g; (exact i36 zz g); omega
     refine wc_ev [evC 11 1 0 agg3 f73,eqT 12 0 3 c78,evV 13 3 (vA #[(vS v46.d.name),(vI v46.d.rt),(vI v46.d.dl),(vL v46.da v46.d.xs.length v46.dc)]) (show loadT Tryz.prog h71 31 (vP b57 3)=some (vA #[(vS v46.d.name),(vI v46.d.rt),(vI v46.d.dl),(vL v46.da v46.d.xs.length v46.dc)]) from load_agg agg31 size31 f73 (by simp) (by kernel_rfl)),evC 13 5 2 agg3 f73,evV 13 10 (vA #[(vS v46.d.name),(vI v46.d.rt),(vI v46.d.dl),(vL v46.da v46.d.xs.length v46.dc)]) (show loadT Tryz.prog h71 31 (vP b57 3)=some (vA #[(vS v46.d.name),(vI v46.d.rt),(vI v46.d.dl),(vL v46.da v46.d.xs.length v46.dc)]) from load_agg agg31 size31 f73 (by simp) (by kernel_rfl)),evC 13 12 2 agg3 f73,evF 13 6 s80,evC 99 0 2 agg3 f87,evV 99 0 undef (show loadT Tryz.prog h79 31 (vP b57 3)=some (vA #[(vS v46.d.name),(vI v46.d.rt),(vI v46.d.dl),(vL v46.da v46.d.xs.length v46.dc)]) from load_agg agg31 size31 f87 (by simp) (by kernel_rfl)),evF 13 13 s95,eqT 13 14 34 (Eq.refl ((startE m (v46.id) v46.d (v46.nw)):Int))] .normal h94 [(29,(vP b57 0)),(30,(vI v46.dk)),(32,(vB true)),(31,(vB true)),(33,(vP t 0)),(34,(vI v46.id)),(35,(vP b57 3)),(36,(vA #[(vS v46.d.name),(vI v46.d.rt),(vI v46.d.dl),(vL v46.da v46.d.xs.length v46.dc)])),(37,(vP b57 2)),(38,(vI v46.nw)),(40,(vP r 0)),(41,(vI v46.id)),(42,(vP b57 3)),(43,(vA #[(vS v46.d.name),(vI v46.d.rt),(vI v46.d.dl),(vL v46.da v46.d.xs.length v46.dc)])),(44,(vP b57 2)),(45,(vI v46.nw)),(39,(vI (startE m (v46.id) v46.d (v46.nw)))),(46,(vI (startE m (v46.id) v46.d (v46.nw)))),(47,(vB true)),(12,(vB true))] ?_ (by intro K'; kernel_rfl)
     exact ⟨(startM m (v46.id) v46.d (v46.nw)),t,r,O14892,O14909,Oo,ov,wv,(v46.id),(fun i=>([vU,vU,vU,vU,vU,vU,vU,vU,vU,vU,vU,vU,vU,(g0 13),(g0 14),vU,vU,vU,vU,vU,vU,vU,vU,vU,vU,vU,vU,vU,vU,(vP b57 0),(vI v46.dk),(vB true),(vB true),(vP t 0),(vI v46.id),(vP b57 3),(vA #[(vS v46.d.name),(vI v46.d.rt),(vI v46.d.dl),(vL v46.da v46.d.xs.length v46.dc)]),(vP b57 2),(vI v46.nw),(vI (startE m (v46.id) v46.d (v46.nw))),(vP r 0),(vI v46.id),(vP b57 3),(vA #[(vS v46.d.name),(vI v46.d.rt),(vI v46.d.dl),(vL v46.da v46.d.xs.length v46.dc)]),(vP b57 2),(vI v46.nw),(vI (startE m (v46.id) v46.d (v46.nw))),(vB true),(g0 48),(g0 49),(g0 50),(g0 51),(g0 52),(g0 53),(g0 54),(g0 55),(g0 56),(g0 57),(g0 58),(g0 59),(g0 60),(g0 61),(g0 62),(g0 63),(g0 64),(g0 65),(g0 66),(g0 67),(g0 68),(g0 69),(g0 70),(g0 71),(g0 72),(g0 73),(g0 74),(g0 75),(g0 76),(g0 77),(g0 78),(g0 79),(g0 80),(g0 81),(g0 82),(g0 83),(g0 84),(g0 85),(g0 86),(g0 87),(g0 88),(g0 89),(g0 90),(g0 91),(g0 92),(g0 93),(g0 94),(g0 95),(g0 96),(g0 97),(g0 98),(g0 99),(g0 100),(g0 101),(g0 102),(g0 103),(g0 104),(g0 105),(g0 106),(g0 107),(g0 108),(g0 109),(g0 110),(g0 111),(g0 112),(g0 113),(g0 114),(g0 115),(g0 116),(g0 117),(g0 118),(g0 119),(g0 120),(g0 121),(g0 122),(g0 123),(g0 124),(g0 125),(g0 126),(g0 127),(g0 128),(g0 129),(g0 130),(g0 131),(g0 132),(g0 133),(g0 134),(g0 135)]:List Value).getD i undef),by kernel_rfl,x101,k84,o93,o107,i37,(fun zz hz hz2=>n105 zz hz2 hz),n92,n106,p102,p97,p103⟩
    ·by_cases c108:((v46.dk):Int)=1
     ·obtain ⟨_,h109,s110,w111,c112,rfl,o113,x114,n115⟩:=rNext_ok h71 p75 i34
      have z116:(nxtL m).length≤64:=Nat.le_trans (nxtL_len _) (i34).few
      have f117:=x114 _ _ f73
      have p118:=p74.keep fun b r _ q=>x114 b r q
      have p119:=p75.keep fun b r _ q=>x114 b r q
      have p120:=p76.keep fun b r _ q=>x114 b r q
      have x121:=x77.trans x114
      have z122:h.size≤h71.size:=x77.size
      have o123:∀ zz,blk (Value.slice w111 ((nxtL m).length) (c112)) zz→h.size≤zz:=fun zz hz=>by have:=n115 zz hz; omega
      by_cases c124:(0:Int) < (((nxtL m).length:Nat))
      ·obtain ⟨un125,e126⟩:∃ q:Int,q=IntKind.u64.wrap (v46.id):=⟨_,rfl⟩
       have r127:0≤un125∧un125≤18446744073709551615:=by rw [e126]; exact uwrap_rng _
       have z128:((((nxtL m).length:Nat)):Int) ≠ 0:=by omega
       have t129:0≤Int.tmod (un125) (((nxtL m).length:Nat))∧Int.tmod (un125) (((nxtL m).length:Nat)) < (((nxtL m).length:Nat)):=⟨Int.tmod_nonneg _ (by omega),Int.tmod_lt_of_pos _ (by omega)⟩
       obtain ⟨i130,v131,e132,l133,g134⟩:=list_at (nxtL m) (e:=(Int.tmod (un125) (((nxtL m).length:Nat)))) (by omega) (by first | omega | (simp only [List.length_set,List.length_append,List.length_singleton]; omega))
       obtain ⟨b135,o136,q137,a138,k139,u140⟩:=o113.store effc_size g134
       have z141:=nxt_rng i34 g134
       obtain ⟨b142,eb143⟩:∃ zq,zq=h109.size:=⟨_,rfl⟩
       obtain ⟨h144,e145⟩:∃ zq,zq=h109.push (.cells #[(vI 0),(vI 0),(vI 0)] 33 (0,0)):=⟨_,rfl⟩
       have f146:=push_new e145
       rw [← eb143] at f146
       have n147:b142 ≠ b57:=by have:=row_lt f117; omega
       have n148:∀ zz,Ot zz→¬ zz=b142:=fun zz hz ez=>by have:=p118.blk_lt hz; omega
       have n149:∀ zz,Or zz→¬ zz=b142:=fun zz hz ez=>by have:=p119.blk_lt hz; omega
       have n150:∀ zz,Oo zz→¬ zz=b142:=fun zz hz ez=>by have:=p120.blk_lt hz; omega
       have x151:Ext h109 h144:=by rw [e145]; exact Ext.push _ _
       have o152:h.size≤b142:=by have:=x121.size; omega
       have f153:=x151 _ _ f117
       have p154:=p118.keep fun b r _ q=>x151 b r q
       have p155:=p119.keep fun b r _ q=>x151 b r q
       have p156:=p120.keep fun b r _ q=>x151 b r q
       have x157:=x121.trans x151
       obtain ⟨h158,e159⟩:∃ zq,zq=h144.setIfInBounds b142 (.cells #[(vI (v131.sg)),(vI (v131.sp)),(vI (v131.ph))] 33 (0,0)):=⟨_,rfl⟩
       have f160:=set_same e159 f146
       have f161:=set_other e159 f153 n147
       have p162:=p154.keep fun b r hb q=>(Chg.set e159).same b r q (n148 b hb)
       have p163:=p155.keep fun b r hb q=>(Chg.set e159).same b r q (n149 b hb)
       have p164:=p156.keep fun b r hb q=>(Chg.set e159).same b r q (n150 b hb)
       have x165:=Ext.setNew x157 e159 o152
       obtain ⟨_,h166,s167,rfl,x168,O15007,p169,o170⟩:=tresult_ok h158 p162 i34 (v131.sg) (v131.sg) (v131.sp) (v131.ph) (v46.rs) (v46.nw) (x165 _ _ hg0) (x165 _ _ hg1)
       have k171:=WfT.res i34 (v131.sg) (v131.sg) (v131.sp) (v131.ph) (v46.rs) (v46.nw)
       have z172:h.size≤h158.size:=x165.size
       have x173:Ext h _:=(Chg.then (O:=fun _=>False) (Chg.ext x165) x168 (fun b hb=>.inr (i35 b hb))).toExt'
       have f174:=x168.same _ _ f161 (fun hb=>n62 _ hb rfl)
       have f175:=x168.same _ _ f160 (fun hb=>n148 _ hb rfl)
       have p176:=p163.keep fun b r hb q=>x168.same b r q ((fun b hb hb2=>i38 b hb2 hb) b hb)
       have p177:=p164.keep fun b r hb q=>x168.same b r q ((fun b hb hb2=>i39 b hb2 hb) b hb)
       have z178:h.size≤h158.size:=x165.size
       have n179:∀ zz,O15007 zz→¬ Or zz:=fun zz hz ez=>by rcases o170 zz hz with g | g; (exact i38 _ g ez); have:=p163.blk_lt ez; omega
       have n180:∀ zz,O15007 zz→¬ Oo zz:=fun zz hz ez=>by rcases o170 zz hz with g | g; (exact i39 _ g ez); have:=p164.blk_lt ez; omega
       have o181:∀ zz,O15007 zz→h.size≤zz:=fun zz hz=>by rcases o170 zz hz with g | g; (exact i35 zz g); omega
       obtain ⟨_,h182,s183,rfl,x184,O15028,p185,o186⟩:=rresultT_ok h166 p176 i34 (v131.sg) (v131.sg) (v131.sp) (v131.ph) (v46.rs) (v46.nw) (by omega)
       have k187:=WfT.res i34 (v131.sg) (v131.sg) (v131.sp) (v131.ph) (v46.rs) (v46.nw)
       have z188:h.size≤h166.size:=x173.size
       have x189:Ext h _:=(Chg.then (O:=fun _=>False) (Chg.ext x173) x184 (fun b hb=>.inr (i36 b hb))).toExt'
       have p190:=p169.keep fun b r hb q=>x184.same b r q (n179 b hb)
       have p191:=p177.keep fun b r hb q=>x184.same b r q ((fun b hb hb2=>i40 b hb2 hb) b hb)
       have z192:h.size≤h166.size:=x173.size
       have n193:∀ zz,O15028 zz→¬ O15007 zz:=fun zz hz ez=>by rcases o186 zz hz with g | g; (exact n179 _ ez g); have:=p169.blk_lt ez; omega
       have n194:∀ zz,O15028 zz→¬ Oo zz:=fun zz hz ez=>by rcases o186 zz hz with g | g; (exact i40 _ g ez); have:=p177.blk_lt ez; omega
       have o195:∀ zz,O15028 zz→h.size≤zz:=fun zz hz=>by rcases o186 zz hz with g | g; (exact i36 zz g); omega
       refine wc_ev [evC 11 1 0 agg3 f73,eqF 12 0 3 c78,eqT 14 0 3 c108,evF 15 1 s110,gtT 16 2 3 c124,evV 17 2 (Value.int .u64 (un125)) (show (Value.int .u64 (un125))=(Value.int .u64 (IntKind.u64.wrap (v46.id))) from by rw [e126]),evV 17 5 (Value.int .u64 (((nxtL m).length:Nat))) (show (Value.int .u64 (((nxtL m).length:Nat)))=(Value.int .u64 (IntKind.u64.wrap (((nxtL m).length:Nat)))) from by congr 1; rw [IntKind.wrap_u64]; omega),evV 17 6 (Value.int .u64 (Int.tmod (un125) (((nxtL m).length:Nat)))) (show binA Tryz.prog .rem 44 (Value.int .u64 (un125)) (Value.int .u64 (((nxtL m).length:Nat)))=some (Value.int .u64 (Int.tmod (un125) (((nxtL m).length:Nat)))) from rem_int z128),evV 17 7 (vI (Int.tmod (un125) (((nxtL m).length:Nat)))) (show (vI (Int.tmod (un125) (((nxtL m).length:Nat))))=(vI (IntKind.i64.wrap (Int.tmod (un125) (((nxtL m).length:Nat))))) from by congr 1; rw [IntKind.wrap_i64]; omega),evV 17 8 (vP b135 o136) (show indexAddrA Tryz.prog 42 (vL w111 ((nxtL m).length) c112) (vI (Int.tmod (un125) (((nxtL m).length:Nat))))=some (vP b135 o136) from a138 und42 size33 e132),evV 17 9 (vA #[(vI v131.sg),(vI v131.sp),(vI v131.ph)]) (show loadT Tryz.prog h109 33 (vP b135 o136)=some (vA #[(vI v131.sg),(vI v131.sp),(vI v131.ph)]) from k139.agg (j:=0) agg33 size33 (show 0 + 3≤3 by decide) (by kernel_rfl)),evA 17 10 eb143 e145,evUw 17 11 size33 f146 e159,evC 18 1 0 agg3 f160,evLw 19 2 agg33 size33 f160,evC 19 4 10 agg34 f161,evC 19 6 2 agg3 f161,evLw 19 10 agg33 size33 f160,evC 19 12 10 agg34 f161,evC 19 14 2 agg3 f161,evF 19 7 s167,evC 99 0 2 agg3 f174,evC 99 0 10 agg34 f174,evLw 99 0 agg33 size33 f175,evF 19 15 s183,eqT 19 16 34 (Eq.refl ((resTE m (v131.sg) (v131.sg) (v131.sp) (v131.ph) (v46.rs) (v46.nw)):Int))] .normal h182 [(29,(vP b57 0)),(30,(vI v46.dk)),(32,(vB false)),(31,(vB false)),(49,(vB true)),(48,(vB true)),(50,(vP r 0)),(51,(vL w111 ((nxtL m).length) c112)),(13,(vL w111 ((nxtL m).length) c112)),(52,(vL w111 ((nxtL m).length) c112)),(53,(vI (((nxtL m).length:Nat)))),(54,(vB true)),(55,(vL w111 ((nxtL m).length) c112)),(56,(vI v46.id)),(57,(Value.int .u64 (un125))),(58,(vL w111 ((nxtL m).length) c112)),(59,(vI (((nxtL m).length:Nat)))),(60,(Value.int .u64 (((nxtL m).length:Nat)))),(61,(Value.int .u64 (Int.tmod (un125) (((nxtL m).length:Nat))))),(62,(vI (Int.tmod (un125) (((nxtL m).length:Nat))))),(63,(vP b135 o136)),(64,(vA #[(vI v131.sg),(vI v131.sp),(vI v131.ph)])),(14,(vP b142 0)),(65,(vP b142 0)),(66,(vI v131.sg)),(11,(vI v131.sg)),(67,(vP t 0)),(68,(vI v131.sg)),(69,(vA #[(vI v131.sg),(vI v131.sp),(vI v131.ph)])),(70,(vP b57 10)),(71,(vI v46.rs)),(72,(vP b57 2)),(73,(vI v46.nw)),(75,(vP r 0)),(76,(vI v131.sg)),(77,(vA #[(vI v131.sg),(vI v131.sp),(vI v131.ph)])),(78,(vP b57 10)),(79,(vI v46.rs)),(80,(vP b57 2)),(81,(vI v46.nw)),(74,(vI (resTE m (v131.sg) (v131.sg) (v131.sp) (v131.ph) (v46.rs) (v46.nw)))),(82,(vI (resTE m (v131.sg) (v131.sg) (v131.sp) (v131.ph) (v46.rs) (v46.nw)))),(83,(vB true)),(12,(vB true))] ?_ (by intro K'; kernel_rfl)
       exact ⟨(resTM m (v131.sg) (v131.sg) (v131.sp) (v131.ph) (v46.rs) (v46.nw)),t,r,O15007,O15028,Oo,ov,wv,(v131.sg),(fun i=>([vU,vU,vU,vU,vU,vU,vU,vU,vU,vU,vU,vU,vU,(vL w111 ((nxtL m).length) c112),(vP b142 0),vU,vU,vU,vU,vU,vU,vU,vU,vU,vU,vU,vU,vU,vU,(vP b57 0),(vI v46.dk),(vB false),(vB false),(g0 33),(g0 34),(g0 35),(g0 36),(g0 37),(g0 38),(g0 39),(g0 40),(g0 41),(g0 42),(g0 43),(g0 44),(g0 45),(g0 46),(g0 47),(vB true),(vB true),(vP r 0),(vL w111 ((nxtL m).length) c112),(vL w111 ((nxtL m).length) c112),(vI (((nxtL m).length:Nat))),(vB true),(vL w111 ((nxtL m).length) c112),(vI v46.id),(Value.int .u64 (un125)),(vL w111 ((nxtL m).length) c112),(vI (((nxtL m).length:Nat))),(Value.int .u64 (((nxtL m).length:Nat))),(Value.int .u64 (Int.tmod (un125) (((nxtL m).length:Nat)))),(vI (Int.tmod (un125) (((nxtL m).length:Nat)))),(vP b135 o136),(vA #[(vI v131.sg),(vI v131.sp),(vI v131.ph)]),(vP b142 0),(vI v131.sg),(vP t 0),(vI v131.sg),(vA #[(vI v131.sg),(vI v131.sp),(vI v131.ph)]),(vP b57 10),(vI v46.rs),(vP b57 2),(vI v46.nw),(vI (resTE m (v131.sg) (v131.sg) (v131.sp) (v131.ph) (v46.rs) (v46.nw))),(vP r 0),(vI v131.sg),(vA #[(vI v131.sg),(vI v131.sp),(vI v131.ph)]),(vP b57 10),(vI v46.rs),(vP b57 2),(vI v46.nw),(vI (resTE m (v131.sg) (v131.sg) (v131.sp) (v131.ph) (v46.rs) (v46.nw))),(vB true),(g0 84),(g0 85),(g0 86),(g0 87),(g0 88),(g0 89),(g0 90),(g0 91),(g0 92),(g0 93),(g0 94),(g0 95),(g0 96),(g0 97),(g0 98),(g0 99),(g0 100),(g0 101),(g0 102),(g0 103),(g0 104),(g0 105),(g0 106),(g0 107),(g0 108),(g0 109),(g0 110),(g0 111),(g0 112),(g0 113),(g0 114),(g0 115),(g0 116),(g0 117),(g0 118),(g0 119),(g0 120),(g0 121),(g0 122),(g0 123),(g0 124),(g0 125),(g0 126),(g0 127),(g0 128),(g0 129),(g0 130),(g0 131),(g0 132),(g0 133),(g0 134),(g0 135)]:List Value).getD i undef),by kernel_rfl,x189,k171,o181,o195,i37,(fun zz hz hz2=>n193 zz hz2 hz),n180,n194,p190,p185,p191⟩
      ·refine wc_ev [evC 11 1 0 agg3 f73,eqF 12 0 3 c78,eqT 14 0 3 c108,evF 15 1 s110,gtF 16 2 3 c124] .normal h109 [(29,(vP b57 0)),(30,(vI v46.dk)),(32,(vB false)),(31,(vB false)),(49,(vB true)),(48,(vB true)),(50,(vP r 0)),(51,(vL w111 ((nxtL m).length) c112)),(13,(vL w111 ((nxtL m).length) c112)),(52,(vL w111 ((nxtL m).length) c112)),(53,(vI (((nxtL m).length:Nat)))),(54,(vB false))] ?_ (by intro K'; kernel_rfl)
       exact ⟨m,t,r,Ot,Or,Oo,ov,wv,(v46.id),(fun i=>([vU,vU,vU,vU,vU,vU,vU,vU,vU,vU,vU,vU,vU,(vL w111 ((nxtL m).length) c112),(g0 14),vU,vU,vU,vU,vU,vU,vU,vU,vU,vU,vU,vU,vU,vU,(vP b57 0),(vI v46.dk),(vB false),(vB false),(g0 33),(g0 34),(g0 35),(g0 36),(g0 37),(g0 38),(g0 39),(g0 40),(g0 41),(g0 42),(g0 43),(g0 44),(g0 45),(g0 46),(g0 47),(vB true),(vB true),(vP r 0),(vL w111 ((nxtL m).length) c112),(vL w111 ((nxtL m).length) c112),(vI (((nxtL m).length:Nat))),(vB false),(g0 55),(g0 56),(g0 57),(g0 58),(g0 59),(g0 60),(g0 61),(g0 62),(g0 63),(g0 64),(g0 65),(g0 66),(g0 67),(g0 68),(g0 69),(g0 70),(g0 71),(g0 72),(g0 73),(g0 74),(g0 75),(g0 76),(g0 77),(g0 78),(g0 79),(g0 80),(g0 81),(g0 82),(g0 83),(g0 84),(g0 85),(g0 86),(g0 87),(g0 88),(g0 89),(g0 90),(g0 91),(g0 92),(g0 93),(g0 94),(g0 95),(g0 96),(g0 97),(g0 98),(g0 99),(g0 100),(g0 101),(g0 102),(g0 103),(g0 104),(g0 105),(g0 106),(g0 107),(g0 108),(g0 109),(g0 110),(g0 111),(g0 112),(g0 113),(g0 114),(g0 115),(g0 116),(g0 117),(g0 118),(g0 119),(g0 120),(g0 121),(g0 122),(g0 123),(g0 124),(g0 125),(g0 126),(g0 127),(g0 128),(g0 129),(g0 130),(g0 131),(g0 132),(g0 133),(g0 134),(g0 135)]:List Value).getD i undef),by kernel_rfl,x121,i34,i35,i36,i37,i38,i39,i40,p118,p119,p120⟩
     ·by_cases c196:((v46.dk):Int)=2
      ·obtain ⟨_,h197,s198,rfl,x199,O15050,p200,o201⟩:=tresult_ok h71 p74 i34 (v46.id) (v46.e1) (v46.e2) (v46.e3) (v46.rs) (v46.nw) (x77 _ _ hg0) (x77 _ _ hg1)
       have k202:=WfT.res i34 (v46.id) (v46.e1) (v46.e2) (v46.e3) (v46.rs) (v46.nw)
       have z203:h.size≤h71.size:=x77.size
       have x204:Ext h _:=(Chg.then (O:=fun _=>False) (Chg.ext x77) x199 (fun b hb=>.inr (i35 b hb))).toExt'
       have f205:=x199.same _ _ f73 (fun hb=>n62 _ hb rfl)
       have p206:=p75.keep fun b r hb q=>x199.same b r q ((fun b hb hb2=>i38 b hb2 hb) b hb)
       have p207:=p76.keep fun b r hb q=>x199.same b r q ((fun b hb hb2=>i39 b hb2 hb) b hb)
       have z208:h.size≤h71.size:=x77.size
       have n209:∀ zz,O15050 zz→¬ Or zz:=fun zz hz ez=>by rcases o201 zz hz with g | g; (exact i38 _ g ez); have:=p75.blk_lt ez; omega
       have n210:∀ zz,O15050 zz→¬ Oo zz:=fun zz hz ez=>by rcases o201 zz hz with g | g; (exact i39 _ g ez); have:=p76.blk_lt ez; omega
       have o211:∀ zz,O15050 zz→h.size≤zz:=fun zz hz=>by rcases o201 zz hz with g | g; (exact i35 zz g); omega
       obtain ⟨_,h212,s213,rfl,x214,O15067,p215,o216⟩:=rresultT_ok h197 p206 i34 (v46.id) (v46.e1) (v46.e2) (v46.e3) (v46.rs) (v46.nw) (by omega)
       have k217:=WfT.res i34 (v46.id) (v46.e1) (v46.e2) (v46.e3) (v46.rs) (v46.nw)
       have z218:h.size≤h197.size:=x204.size
       have x219:Ext h _:=(Chg.then (O:=fun _=>False) (Chg.ext x204) x214 (fun b hb=>.inr (i36 b hb))).toExt'
       have p220:=p200.keep fun b r hb q=>x214.same b r q (n209 b hb)
       have p221:=p207.keep fun b r hb q=>x214.same b r q ((fun b hb hb2=>i40 b hb2 hb) b hb)
       have z222:h.size≤h197.size:=x204.size
       have n223:∀ zz,O15067 zz→¬ O15050 zz:=fun zz hz ez=>by rcases o216 zz hz with g | g; (exact n209 _ ez g); have:=p200.blk_lt ez; omega
       have n224:∀ zz,O15067 zz→¬ Oo zz:=fun zz hz ez=>by rcases o216 zz hz with g | g; (exact i40 _ g ez); have:=p207.blk_lt ez; omega
       have o225:∀ zz,O15067 zz→h.size≤zz:=fun zz hz=>by rcases o216 zz hz with g | g; (exact i36 zz g); omega
       refine wc_ev [evC 11 1 0 agg3 f73,eqF 12 0 3 c78,eqF 14 0 3 c108,eqT 20 0 3 c196,evV 21 3 (vA #[(vI v46.e1),(vI v46.e2),(vI v46.e3)]) (show loadT Tryz.prog h71 33 (vP b57 7)=some (vA #[(vI v46.e1),(vI v46.e2),(vI v46.e3)]) from load_agg agg33 size33 f73 (by simp) (by kernel_rfl)),evC 21 5 10 agg34 f73,evC 21 7 2 agg3 f73,evV 21 12 (vA #[(vI v46.e1),(vI v46.e2),(vI v46.e3)]) (show loadT Tryz.prog h71 33 (vP b57 7)=some (vA #[(vI v46.e1),(vI v46.e2),(vI v46.e3)]) from load_agg agg33 size33 f73 (by simp) (by kernel_rfl)),evC 21 14 10 agg34 f73,evC 21 16 2 agg3 f73,evF 21 8 s198,evC 99 0 2 agg3 f205,evC 99 0 10 agg34 f205,evV 99 0 undef (show loadT Tryz.prog h197 33 (vP b57 7)=some (vA #[(vI v46.e1),(vI v46.e2),(vI v46.e3)]) from load_agg agg33 size33 f205 (by simp) (by kernel_rfl)),evF 21 17 s213,eqT 21 18 34 (Eq.refl ((resTE m (v46.id) (v46.e1) (v46.e2) (v46.e3) (v46.rs) (v46.nw)):Int))] .normal h212 [(29,(vP b57 0)),(30,(vI v46.dk)),(32,(vB false)),(31,(vB false)),(49,(vB false)),(48,(vB false)),(85,(vB true)),(84,(vB true)),(86,(vP t 0)),(87,(vI v46.id)),(88,(vP b57 7)),(89,(vA #[(vI v46.e1),(vI v46.e2),(vI v46.e3)])),(90,(vP b57 10)),(91,(vI v46.rs)),(92,(vP b57 2)),(93,(vI v46.nw)),(95,(vP r 0)),(96,(vI v46.id)),(97,(vP b57 7)),(98,(vA #[(vI v46.e1),(vI v46.e2),(vI v46.e3)])),(99,(vP b57 10)),(100,(vI v46.rs)),(101,(vP b57 2)),(102,(vI v46.nw)),(94,(vI (resTE m (v46.id) (v46.e1) (v46.e2) (v46.e3) (v46.rs) (v46.nw)))),(103,(vI (resTE m (v46.id) (v46.e1) (v46.e2) (v46.e3) (v46.rs) (v46.nw)))),(104,(vB true)),(12,(vB true))] ?_ (by intro K'; kernel_rfl)
       exact ⟨(resTM m (v46.id) (v46.e1) (v46.e2) (v46.e3) (v46.rs) (v46.nw)),t,r,O15050,O15067,Oo,ov,wv,(v46.id),(fun i=>([vU,vU,vU,vU,vU,vU,vU,vU,vU,vU,vU,vU,vU,(g0 13),(g0 14),vU,vU,vU,vU,vU,vU,vU,vU,vU,vU,vU,vU,vU,vU,(vP b57 0),(vI v46.dk),(vB false),(vB false),(g0 33),(g0 34),(g0 35),(g0 36),(g0 37),(g0 38),(g0 39),(g0 40),(g0 41),(g0 42),(g0 43),(g0 44),(g0 45),(g0 46),(g0 47),(vB false),(vB false),(g0 50),(g0 51),(g0 52),(g0 53),(g0 54),(g0 55),(g0 56),(g0 57),(g0 58),(g0 59),(g0 60),(g0 61),(g0 62),(g0 63),(g0 64),(g0 65),(g0 66),(g0 67),(g0 68),(g0 69),(g0 70),(g0 71),(g0 72),(g0 73),(g0 74),(g0 75),(g0 76),(g0 77),(g0 78),(g0 79),(g0 80),(g0 81),(g0 82),(g0 83),(vB true),(vB true),(vP t 0),(vI v46.id),(vP b57 7),(vA #[(vI v46.e1),(vI v46.e2),(vI v46.e3)]),(vP b57 10),(vI v46.rs),(vP b57 2),(vI v46.nw),(vI (resTE m (v46.id) (v46.e1) (v46.e2) (v46.e3) (v46.rs) (v46.nw))),(vP r 0),(vI v46.id),(vP b57 7),(vA #[(vI v46.e1),(vI v46.e2),(vI v46.e3)]),(vP b57 10),(vI v46.rs),(vP b57 2),(vI v46.nw),(vI (resTE m (v46.id) (v46.e1) (v46.e2) (v46.e3) (v46.rs) (v46.nw))),(vB true),(g0 105),(g0 106),(g0 107),(g0 108),(g0 109),(g0 110),(g0 111),(g0 112),(g0 113),(g0 114),(g0 115),(g0 116),(g0 117),(g0 118),(g0 119),(g0 120),(g0 121),(g0 122),(g0 123),(g0 124),(g0 125),(g0 126),(g0 127),(g0 128),(g0 129),(g0 130),(g0 131),(g0 132),(g0 133),(g0 134),(g0 135)]:List Value).getD i undef),by kernel_rfl,x219,k202,o211,o225,i37,(fun zz hz hz2=>n223 zz hz2 hz),n210,n224,p220,p215,p221⟩
      ·by_cases c226:((v46.dk):Int)=3
       ·obtain ⟨_,h227,s228,rfl,x229,O15085,p230,o231⟩:=tcancel_ok h71 p74 i34 (v46.id)
        have k232:=WfT.can i34 (v46.id)
        have z233:h.size≤h71.size:=x77.size
        have x234:Ext h _:=(Chg.then (O:=fun _=>False) (Chg.ext x77) x229 (fun b hb=>.inr (i35 b hb))).toExt'
        have p235:=p75.keep fun b r hb q=>x229.same b r q ((fun b hb hb2=>i38 b hb2 hb) b hb)
        have p236:=p76.keep fun b r hb q=>x229.same b r q ((fun b hb hb2=>i39 b hb2 hb) b hb)
        have z237:h.size≤h71.size:=x77.size
        have n238:∀ zz,O15085 zz→¬ Or zz:=fun zz hz ez=>by rcases o231 zz hz with g | g; (exact i38 _ g ez); have:=p75.blk_lt ez; omega
        have n239:∀ zz,O15085 zz→¬ Oo zz:=fun zz hz ez=>by rcases o231 zz hz with g | g; (exact i39 _ g ez); have:=p76.blk_lt ez; omega
        have o240:∀ zz,O15085 zz→h.size≤zz:=fun zz hz=>by rcases o231 zz hz with g | g; (exact i35 zz g); omega
        obtain ⟨_,h241,s242,rfl,x243,O15102,p244,o245⟩:=rcancelT_ok h227 p235 i34 (v46.id)
        have k246:=WfT.can i34 (v46.id)
        have z247:h.size≤h227.size:=x234.size
        have x248:Ext h _:=(Chg.then (O:=fun _=>False) (Chg.ext x234) x243 (fun b hb=>.inr (i36 b hb))).toExt'
        have p249:=p230.keep fun b r hb q=>x243.same b r q (n238 b hb)
        have p250:=p236.keep fun b r hb q=>x243.same b r q ((fun b hb hb2=>i40 b hb2 hb) b hb)
        have z251:h.size≤h227.size:=x234.size
        have n252:∀ zz,O15102 zz→¬ O15085 zz:=fun zz hz ez=>by rcases o245 zz hz with g | g; (exact n238 _ ez g); have:=p230.blk_lt ez; omega
        have n253:∀ zz,O15102 zz→¬ Oo zz:=fun zz hz ez=>by rcases o245 zz hz with g | g; (exact i40 _ g ez); have:=p236.blk_lt ez; omega
        have o254:∀ zz,O15102 zz→h.size≤zz:=fun zz hz=>by rcases o245 zz hz with g | g; (exact i36 zz g); omega
        refine wc_ev [evC 11 1 0 agg3 f73,eqF 12 0 3 c78,eqF 14 0 3 c108,eqF 20 0 3 c196,eqT 22 0 3 c226,evF 23 2 s228,evF 23 5 s242,eqT 23 6 34 (Eq.refl ((canTE m (v46.id)):Int))] .normal h241 [(29,(vP b57 0)),(30,(vI v46.dk)),(32,(vB false)),(31,(vB false)),(49,(vB false)),(48,(vB false)),(85,(vB false)),(84,(vB false)),(106,(vB true)),(105,(vB true)),(107,(vP t 0)),(108,(vI v46.id)),(109,(vI (canTE m (v46.id)))),(110,(vP r 0)),(111,(vI v46.id)),(112,(vI (canTE m (v46.id)))),(113,(vB true)),(12,(vB true))] ?_ (by intro K'; kernel_rfl)
        exact ⟨(canTM m (v46.id)),t,r,O15085,O15102,Oo,ov,wv,(v46.id),(fun i=>([vU,vU,vU,vU,vU,vU,vU,vU,vU,vU,vU,vU,vU,(g0 13),(g0 14),vU,vU,vU,vU,vU,vU,vU,vU,vU,vU,vU,vU,vU,vU,(vP b57 0),(vI v46.dk),(vB false),(vB false),(g0 33),(g0 34),(g0 35),(g0 36),(g0 37),(g0 38),(g0 39),(g0 40),(g0 41),(g0 42),(g0 43),(g0 44),(g0 45),(g0 46),(g0 47),(vB false),(vB false),(g0 50),(g0 51),(g0 52),(g0 53),(g0 54),(g0 55),(g0 56),(g0 57),(g0 58),(g0 59),(g0 60),(g0 61),(g0 62),(g0 63),(g0 64),(g0 65),(g0 66),(g0 67),(g0 68),(g0 69),(g0 70),(g0 71),(g0 72),(g0 73),(g0 74),(g0 75),(g0 76),(g0 77),(g0 78),(g0 79),(g0 80),(g0 81),(g0 82),(g0 83),(vB false),(vB false),(g0 86),(g0 87),(g0 88),(g0 89),(g0 90),(g0 91),(g0 92),(g0 93),(g0 94),(g0 95),(g0 96),(g0 97),(g0 98),(g0 99),(g0 100),(g0 101),(g0 102),(g0 103),(g0 104),(vB true),(vB true),(vP t 0),(vI v46.id),(vI (canTE m (v46.id))),(vP r 0),(vI v46.id),(vI (canTE m (v46.id))),(vB true),(g0 114),(g0 115),(g0 116),(g0 117),(g0 118),(g0 119),(g0 120),(g0 121),(g0 122),(g0 123),(g0 124),(g0 125),(g0 126),(g0 127),(g0 128),(g0 129),(g0 130),(g0 131),(g0 132),(g0 133),(g0 134),(g0 135)]:List Value).getD i undef),by kernel_rfl,x248,k232,o240,o254,i37,(fun zz hz hz2=>n252 zz hz2 hz),n239,n253,p249,p244,p250⟩
       ·by_cases c255:((v46.dk):Int)=4
        ·obtain ⟨_,h256,s257,rfl,x258,O15120,p259,o260⟩:=put_ok h71 p74 i34 (v46.id) v46.s _ _ (t55.ls.keep fun b r _ q=>x77 b r q) (by omega)
         have k261:=WfT.put i34 (v46.id) v46.s
         have z262:h.size≤h71.size:=x77.size
         have x263:Ext h _:=(Chg.then (O:=fun _=>False) (Chg.ext x77) x258 (fun b hb=>.inr (i35 b hb))).toExt'
         have f264:=x258.same _ _ f73 (fun hb=>n62 _ hb rfl)
         have p265:=p75.keep fun b r hb q=>x258.same b r q ((fun b hb hb2=>i38 b hb2 hb) b hb)
         have p266:=p76.keep fun b r hb q=>x258.same b r q ((fun b hb hb2=>i39 b hb2 hb) b hb)
         have z267:h.size≤h71.size:=x77.size
         have n268:∀ zz,O15120 zz→¬ Or zz:=fun zz hz ez=>by rcases o260 zz hz with g | g; (exact i38 _ g ez); have:=p75.blk_lt ez; omega
         have n269:∀ zz,O15120 zz→¬ Oo zz:=fun zz hz ez=>by rcases o260 zz hz with g | g; (exact i39 _ g ez); have:=p76.blk_lt ez; omega
         have o270:∀ zz,O15120 zz→h.size≤zz:=fun zz hz=>by rcases o260 zz hz with g | g; (exact i35 zz g); omega
         obtain ⟨_,hh271,sn272,rfl,x273⟩:=turned_ok h256 v46.s.d.name (v46.s.d.rt) (v46.s.d.dl) v46.sa (v46.s.d.xs.length) (v46.sc) (v46.s.st) (v46.s.ix) v46.s.cn (v46.s.tr) (v46.s.bg) (v46.s.er)
         have p274:=p259.keep fun b r _ q=>x273 b r q
         have p275:=p265.keep fun b r _ q=>x273 b r q
         have p276:=p266.keep fun b r _ q=>x273 b r q
         have x277:=x263.trans x273
         obtain ⟨_,h278,s279,rfl,x280,O15145,p281,o282⟩:=rput_ok hh271 p275 i34 (v46.id) v46.s _ _ (t55.ls.keep fun b r _ q=>x277 b r q) (by omega) t55.zs.1 t55.zs.2
         have k283:=WfT.put i34 (v46.id) v46.s
         have z284:h.size≤hh271.size:=x277.size
         have x285:Ext h _:=(Chg.then (O:=fun _=>False) (Chg.ext x277) x280 (fun b hb=>.inr (i36 b hb))).toExt'
         have p286:=p274.keep fun b r hb q=>x280.same b r q (n268 b hb)
         have p287:=p276.keep fun b r hb q=>x280.same b r q ((fun b hb hb2=>i40 b hb2 hb) b hb)
         have z288:h.size≤hh271.size:=x277.size
         have n289:∀ zz,O15145 zz→¬ O15120 zz:=fun zz hz ez=>by rcases o282 zz hz with g | g; (exact n268 _ ez g); have:=p274.blk_lt ez; omega
         have n290:∀ zz,O15145 zz→¬ Oo zz:=fun zz hz ez=>by rcases o282 zz hz with g | g; (exact i40 _ g ez); have:=p276.blk_lt ez; omega
         have o291:∀ zz,O15145 zz→h.size≤zz:=fun zz hz=>by rcases o282 zz hz with g | g; (exact i36 zz g); omega
         refine wc_ev [evC 11 1 0 agg3 f73,eqF 12 0 3 c78,eqF 14 0 3 c108,eqF 20 0 3 c196,eqF 22 0 3 c226,eqT 24 0 3 c255,evV 25 3 (vA #[(vS v46.s.d.name),(vI v46.s.d.rt),(vI v46.s.d.dl),(vL v46.sa v46.s.d.xs.length v46.sc),(vI v46.s.st),(vI v46.s.ix),(vB v46.s.cn),(vI v46.s.tr),(vI v46.s.bg),(vI v46.s.er)]) (show loadT Tryz.prog h71 38 (vP b57 11)=some (vA #[(vS v46.s.d.name),(vI v46.s.d.rt),(vI v46.s.d.dl),(vL v46.sa v46.s.d.xs.length v46.sc),(vI v46.s.st),(vI v46.s.ix),(vB v46.s.cn),(vI v46.s.tr),(vI v46.s.bg),(vI v46.s.er)]) from load_agg agg38 size38 f73 (by simp) (by kernel_rfl)),evV 25 8 (vA #[(vS v46.s.d.name),(vI v46.s.d.rt),(vI v46.s.d.dl),(vL v46.sa v46.s.d.xs.length v46.sc),(vI v46.s.st),(vI v46.s.ix),(vB v46.s.cn),(vI v46.s.tr),(vI v46.s.bg),(vI v46.s.er)]) (show loadT Tryz.prog h71 38 (vP b57 11)=some (vA #[(vS v46.s.d.name),(vI v46.s.d.rt),(vI v46.s.d.dl),(vL v46.sa v46.s.d.xs.length v46.sc),(vI v46.s.st),(vI v46.s.ix),(vB v46.s.cn),(vI v46.s.tr),(vI v46.s.bg),(vI v46.s.er)]) from load_agg agg38 size38 f73 (by simp) (by kernel_rfl)),evF 25 4 s257,evV 99 0 undef (show loadT Tryz.prog h256 38 (vP b57 11)=some (vA #[(vS v46.s.d.name),(vI v46.s.d.rt),(vI v46.s.d.dl),(vL v46.sa v46.s.d.xs.length v46.sc),(vI v46.s.st),(vI v46.s.ix),(vB v46.s.cn),(vI v46.s.tr),(vI v46.s.bg),(vI v46.s.er)]) from load_agg agg38 size38 f264 (by simp) (by kernel_rfl)),evF 25 9 sn272,evF 25 10 s279,eqT 25 11 34 (Eq.refl ((putE m (v46.id) v46.s):Int))] .normal h278 [(29,(vP b57 0)),(30,(vI v46.dk)),(32,(vB false)),(31,(vB false)),(49,(vB false)),(48,(vB false)),(85,(vB false)),(84,(vB false)),(106,(vB false)),(105,(vB false)),(115,(vB true)),(114,(vB true)),(116,(vP t 0)),(117,(vI v46.id)),(118,(vP b57 11)),(119,(vA #[(vS v46.s.d.name),(vI v46.s.d.rt),(vI v46.s.d.dl),(vL v46.sa v46.s.d.xs.length v46.sc),(vI v46.s.st),(vI v46.s.ix),(vB v46.s.cn),(vI v46.s.tr),(vI v46.s.bg),(vI v46.s.er)])),(121,(vP r 0)),(122,(vI v46.id)),(123,(vP b57 11)),(124,(vA #[(vS v46.s.d.name),(vI v46.s.d.rt),(vI v46.s.d.dl),(vL v46.sa v46.s.d.xs.length v46.sc),(vI v46.s.st),(vI v46.s.ix),(vB v46.s.cn),(vI v46.s.tr),(vI v46.s.bg),(vI v46.s.er)])),(120,(vI (putE m (v46.id) v46.s))),(125,(vA #[(vS v46.s.d.name),(vI v46.s.d.rt),(vI v46.s.d.dl),(vL v46.sa v46.s.d.xs.length v46.sc),(vI v46.s.st),(vI v46.s.ix),(vB v46.s.cn),(vI v46.s.tr),(vI v46.s.bg),(vI v46.s.er)])),(126,(vI (putE m (v46.id) v46.s))),(127,(vB true)),(12,(vB true))] ?_ (by intro K'; kernel_rfl)
         exact ⟨(putM m (v46.id) v46.s),t,r,O15120,O15145,Oo,ov,wv,(v46.id),(fun i=>([vU,vU,vU,vU,vU,vU,vU,vU,vU,vU,vU,vU,vU,(g0 13),(g0 14),vU,vU,vU,vU,vU,vU,vU,vU,vU,vU,vU,vU,vU,vU,(vP b57 0),(vI v46.dk),(vB false),(vB false),(g0 33),(g0 34),(g0 35),(g0 36),(g0 37),(g0 38),(g0 39),(g0 40),(g0 41),(g0 42),(g0 43),(g0 44),(g0 45),(g0 46),(g0 47),(vB false),(vB false),(g0 50),(g0 51),(g0 52),(g0 53),(g0 54),(g0 55),(g0 56),(g0 57),(g0 58),(g0 59),(g0 60),(g0 61),(g0 62),(g0 63),(g0 64),(g0 65),(g0 66),(g0 67),(g0 68),(g0 69),(g0 70),(g0 71),(g0 72),(g0 73),(g0 74),(g0 75),(g0 76),(g0 77),(g0 78),(g0 79),(g0 80),(g0 81),(g0 82),(g0 83),(vB false),(vB false),(g0 86),(g0 87),(g0 88),(g0 89),(g0 90),(g0 91),(g0 92),(g0 93),(g0 94),(g0 95),(g0 96),(g0 97),(g0 98),(g0 99),(g0 100),(g0 101),(g0 102),(g0 103),(g0 104),(vB false),(vB false),(g0 107),(g0 108),(g0 109),(g0 110),(g0 111),(g0 112),(g0 113),(vB true),(vB true),(vP t 0),(vI v46.id),(vP b57 11),(vA #[(vS v46.s.d.name),(vI v46.s.d.rt),(vI v46.s.d.dl),(vL v46.sa v46.s.d.xs.length v46.sc),(vI v46.s.st),(vI v46.s.ix),(vB v46.s.cn),(vI v46.s.tr),(vI v46.s.bg),(vI v46.s.er)]),(vI (putE m (v46.id) v46.s)),(vP r 0),(vI v46.id),(vP b57 11),(vA #[(vS v46.s.d.name),(vI v46.s.d.rt),(vI v46.s.d.dl),(vL v46.sa v46.s.d.xs.length v46.sc),(vI v46.s.st),(vI v46.s.ix),(vB v46.s.cn),(vI v46.s.tr),(vI v46.s.bg),(vI v46.s.er)]),(vA #[(vS v46.s.d.name),(vI v46.s.d.rt),(vI v46.s.d.dl),(vL v46.sa v46.s.d.xs.length v46.sc),(vI v46.s.st),(vI v46.s.ix),(vB v46.s.cn),(vI v46.s.tr),(vI v46.s.bg),(vI v46.s.er)]),(vI (putE m (v46.id) v46.s)),(vB true),(g0 128),(g0 129),(g0 130),(g0 131),(g0 132),(g0 133),(g0 134),(g0 135)]:List Value).getD i undef),by kernel_rfl,x285,k261,o270,o291,i37,(fun zz hz hz2=>n289 zz hz2 hz),n269,n290,p286,p281,p287⟩
        ·by_cases c292:((v46.dk):Int)=5
         ·obtain ⟨_,h293,s294,b295,O15164,rfl,p296,x297,w298⟩:=tcopy_ok h71 p74 i34
          have p299:=p74.keep fun b r _ q=>x297 b r q
          have p300:=p75.keep fun b r _ q=>x297 b r q
          have x301:=x77.trans x297
          have z302:h.size≤h71.size:=x77.size
          have n303:∀ zz,O15164 zz→¬ Ot zz:=fun zz hz ez=>by have:=w298 zz hz; have:=p74.blk_lt ez; omega
          have n304:∀ zz,O15164 zz→¬ Or zz:=fun zz hz ez=>by have:=w298 zz hz; have:=p75.blk_lt ez; omega
          have o305:∀ zz,O15164 zz→h.size≤zz:=fun zz hz=>by have:=w298 zz hz; omega
          obtain ⟨_,h306,s307,b308,O15188,rfl,p309,x310,w311⟩:=rcopy_ok h293 p300 i34
          have p312:=p299.keep fun b r _ q=>x310 b r q
          have p313:=p300.keep fun b r _ q=>x310 b r q
          have p314:=p296.keep fun b r _ q=>x310 b r q
          have x315:=x301.trans x310
          have z316:h.size≤h293.size:=x301.size
          have n317:∀ zz,O15188 zz→¬ Ot zz:=fun zz hz ez=>by have:=w311 zz hz; have:=p299.blk_lt ez; omega
          have n318:∀ zz,O15188 zz→¬ Or zz:=fun zz hz ez=>by have:=w311 zz hz; have:=p300.blk_lt ez; omega
          have n319:∀ zz,O15188 zz→¬ O15164 zz:=fun zz hz ez=>by have:=w311 zz hz; have:=p296.blk_lt ez; omega
          have o320:∀ zz,O15188 zz→h.size≤zz:=fun zz hz=>by have:=w311 zz hz; omega
          refine wc_ev [evC 11 1 0 agg3 f73,eqF 12 0 3 c78,eqF 14 0 3 c108,eqF 20 0 3 c196,eqF 22 0 3 c226,eqF 24 0 3 c255,eqT 26 0 3 c292,evF 28 1 s294,evF 28 3 s307] .normal h306 [(29,(vP b57 0)),(30,(vI v46.dk)),(32,(vB false)),(31,(vB false)),(49,(vB false)),(48,(vB false)),(85,(vB false)),(84,(vB false)),(106,(vB false)),(105,(vB false)),(115,(vB false)),(114,(vB false)),(129,(vB true)),(128,(vB true)),(130,(vP t 0)),(131,(vP r 0)),(7,(vP t 0)),(8,(vP r 0)),(132,(vP t 0)),(133,(vP b295 0)),(134,(vP r 0)),(135,(vP b308 0)),(5,(vP b295 0)),(6,(vP b308 0))] ?_ (by intro K'; kernel_rfl)
          exact ⟨m,b295,b308,O15164,O15188,(fun z=>Ot z ∨ Or z),(vP t 0),(vP r 0),(v46.id),(fun i=>([vU,vU,vU,vU,vU,vU,vU,vU,vU,vU,vU,vU,vU,(g0 13),(g0 14),vU,vU,vU,vU,vU,vU,vU,vU,vU,vU,vU,vU,vU,vU,(vP b57 0),(vI v46.dk),(vB false),(vB false),(g0 33),(g0 34),(g0 35),(g0 36),(g0 37),(g0 38),(g0 39),(g0 40),(g0 41),(g0 42),(g0 43),(g0 44),(g0 45),(g0 46),(g0 47),(vB false),(vB false),(g0 50),(g0 51),(g0 52),(g0 53),(g0 54),(g0 55),(g0 56),(g0 57),(g0 58),(g0 59),(g0 60),(g0 61),(g0 62),(g0 63),(g0 64),(g0 65),(g0 66),(g0 67),(g0 68),(g0 69),(g0 70),(g0 71),(g0 72),(g0 73),(g0 74),(g0 75),(g0 76),(g0 77),(g0 78),(g0 79),(g0 80),(g0 81),(g0 82),(g0 83),(vB false),(vB false),(g0 86),(g0 87),(g0 88),(g0 89),(g0 90),(g0 91),(g0 92),(g0 93),(g0 94),(g0 95),(g0 96),(g0 97),(g0 98),(g0 99),(g0 100),(g0 101),(g0 102),(g0 103),(g0 104),(vB false),(vB false),(g0 107),(g0 108),(g0 109),(g0 110),(g0 111),(g0 112),(g0 113),(vB false),(vB false),(g0 116),(g0 117),(g0 118),(g0 119),(g0 120),(g0 121),(g0 122),(g0 123),(g0 124),(g0 125),(g0 126),(g0 127),(vB true),(vB true),(vP t 0),(vP r 0),(vP t 0),(vP b295 0),(vP r 0),(vP b308 0)]:List Value).getD i undef),by kernel_rfl,x315,i34,o305,o320,(fun z w=>w.elim (i35 z) (i36 z)),(fun zz hz hz2=>n319 zz hz2 hz),(fun z hz w=>w.elim (n303 z hz) (n304 z hz)),(fun z hz w=>w.elim (n317 z hz) (n318 z hz)),p314,p309,(OldAt.of p312 p313 i34)⟩
         ·refine wc_ev [evC 11 1 0 agg3 f73,eqF 12 0 3 c78,eqF 14 0 3 c108,eqF 20 0 3 c196,eqF 22 0 3 c226,eqF 24 0 3 c255,eqF 26 0 3 c292] .normal h71 [(29,(vP b57 0)),(30,(vI v46.dk)),(32,(vB false)),(31,(vB false)),(49,(vB false)),(48,(vB false)),(85,(vB false)),(84,(vB false)),(106,(vB false)),(105,(vB false)),(115,(vB false)),(114,(vB false)),(129,(vB false)),(128,(vB false))] ?_ (by intro K'; kernel_rfl)
          exact ⟨m,t,r,Ot,Or,Oo,ov,wv,(v46.id),(fun i=>([vU,vU,vU,vU,vU,vU,vU,vU,vU,vU,vU,vU,vU,(g0 13),(g0 14),vU,vU,vU,vU,vU,vU,vU,vU,vU,vU,vU,vU,vU,vU,(vP b57 0),(vI v46.dk),(vB false),(vB false),(g0 33),(g0 34),(g0 35),(g0 36),(g0 37),(g0 38),(g0 39),(g0 40),(g0 41),(g0 42),(g0 43),(g0 44),(g0 45),(g0 46),(g0 47),(vB false),(vB false),(g0 50),(g0 51),(g0 52),(g0 53),(g0 54),(g0 55),(g0 56),(g0 57),(g0 58),(g0 59),(g0 60),(g0 61),(g0 62),(g0 63),(g0 64),(g0 65),(g0 66),(g0 67),(g0 68),(g0 69),(g0 70),(g0 71),(g0 72),(g0 73),(g0 74),(g0 75),(g0 76),(g0 77),(g0 78),(g0 79),(g0 80),(g0 81),(g0 82),(g0 83),(vB false),(vB false),(g0 86),(g0 87),(g0 88),(g0 89),(g0 90),(g0 91),(g0 92),(g0 93),(g0 94),(g0 95),(g0 96),(g0 97),(g0 98),(g0 99),(g0 100),(g0 101),(g0 102),(g0 103),(g0 104),(vB false),(vB false),(g0 107),(g0 108),(g0 109),(g0 110),(g0 111),(g0 112),(g0 113),(vB false),(vB false),(g0 116),(g0 117),(g0 118),(g0 119),(g0 120),(g0 121),(g0 122),(g0 123),(g0 124),(g0 125),(g0 126),(g0 127),(vB false),(vB false),(g0 130),(g0 131),(g0 132),(g0 133),(g0 134),(g0 135)]:List Value).getD i undef),by kernel_rfl,x77,i34,i35,i36,i37,i38,i39,i40,p74,p75,p76⟩
   ·rintro _ h321 ⟨m2,t2,r2,Ot2,Or2,Oo2,ov2,wv2,nv,g1,rfl,x322,i323,i324,i325,i326,i327,i328,i329,p330,p331,p332⟩
    obtain ⟨_,hh333,sn334,rfl,x335⟩:=shows_ok h321 p330 p331 i323 (nv) (x322 _ _ hg0) (x322 _ _ hg1)
    have p336:=p330.keep fun b r _ q=>x335 b r q
    have p337:=p331.keep fun b r _ q=>x335 b r q
    have p338:=p332.keep fun b r _ q=>x335 b r q
    have x339:=x322.trans x335
    obtain ⟨_,hh340,sn341,rfl,x342⟩:=shows_ok hh333 p336 p337 i323 (id) (x339 _ _ hg0) (x339 _ _ hg1)
    have p343:=p336.keep fun b r _ q=>x342 b r q
    have p344:=p337.keep fun b r _ q=>x342 b r q
    have p345:=p338.keep fun b r _ q=>x342 b r q
    have x346:=x339.trans x342
    rcases OldAt.cases p345 with e347 | ⟨to348,e347⟩
    ·refine wc_ev [evF 29 6 sn334,evF 29 13 sn341,evV 29 18 (vB false) (show binA Tryz.prog .neq 25 ov2 vN=some (vB false) from by rw [e347]; kernel_rfl)] .normal hh340 [(136,(vB true)),(137,(vB false)),(138,(vB false)),(139,(vP t2 0)),(140,(vP r2 0)),(141,(vI nv)),(142,(vB true)),(143,(vB false)),(144,(vB false)),(145,(vB false)),(146,(vP t2 0)),(147,(vP r2 0)),(148,(vI id)),(149,(vB true)),(150,(vB false)),(151,(vB false)),(152,(vB false)),(153,ov2),(154,(vB false)),(155,(vB false)),(156,vZ),(157,vZ),(158,vZ),(159,vZ),(160,vZ),(161,(vB false)),(162,(vB false))] ?_ (by intro K'; kernel_rfl)
     refine wc_act { tmps:=#[(vL sa l.length cp),(vI id),vZ,vZ,(g0 4),(vP t2 0),(vP r2 0),ov2,wv2,vZ,(vP b57 0),(vI nv),(vB true),(g1 13),(g1 14),(vL sa l.length cp),(vB true),(vB false),vZ,(vP b12 0),(vP b21 0),(vL sa l.length cp),(vI ((l.length:Nat))),(vI k),(vB true),(vP b50 o51),(vA #[(vI v46.dk),(vI v46.id),(vI v46.nw),(vS v46.d.name),(vI v46.d.rt),(vI v46.d.dl),(vL v46.da v46.d.xs.length v46.dc),(vI v46.e1),(vI v46.e2),(vI v46.e3),(vI v46.rs),(vS v46.s.d.name),(vI v46.s.d.rt),(vI v46.s.d.dl),(vL v46.sa v46.s.d.xs.length v46.sc),(vI v46.s.st),(vI v46.s.ix),(vB v46.s.cn),(vI v46.s.tr),(vI v46.s.bg),(vI v46.s.er)]),(vP b57 1),(vI v46.id),(g1 29),(g1 30),(g1 31),(g1 32),(g1 33),(g1 34),(g1 35),(g1 36),(g1 37),(g1 38),(g1 39),(g1 40),(g1 41),(g1 42),(g1 43),(g1 44),(g1 45),(g1 46),(g1 47),(g1 48),(g1 49),(g1 50),(g1 51),(g1 52),(g1 53),(g1 54),(g1 55),(g1 56),(g1 57),(g1 58),(g1 59),(g1 60),(g1 61),(g1 62),(g1 63),(g1 64),(g1 65),(g1 66),(g1 67),(g1 68),(g1 69),(g1 70),(g1 71),(g1 72),(g1 73),(g1 74),(g1 75),(g1 76),(g1 77),(g1 78),(g1 79),(g1 80),(g1 81),(g1 82),(g1 83),(g1 84),(g1 85),(g1 86),(g1 87),(g1 88),(g1 89),(g1 90),(g1 91),(g1 92),(g1 93),(g1 94),(g1 95),(g1 96),(g1 97),(g1 98),(g1 99),(g1 100),(g1 101),(g1 102),(g1 103),(g1 104),(g1 105),(g1 106),(g1 107),(g1 108),(g1 109),(g1 110),(g1 111),(g1 112),(g1 113),(g1 114),(g1 115),(g1 116),(g1 117),(g1 118),(g1 119),(g1 120),(g1 121),(g1 122),(g1 123),(g1 124),(g1 125),(g1 126),(g1 127),(g1 128),(g1 129),(g1 130),(g1 131),(g1 132),(g1 133),(g1 134),(g1 135),(vB true),(vB false),(vB false),(vP t2 0),(vP r2 0),(vI nv),(vB true),(vB false),(vB false),(vB false),(vP t2 0),(vP r2 0),(vI id),(vB true),(vB false),(vB false),(vB false),ov2,(vB false),(vB false),vZ,vZ,vZ,vZ,vZ,(vB false),(vB false),(g0 163),vZ],defers:=[] } (by kernel_rfl) ?_
     refine wc_ev [evV 31 0 (vI ((k) + 1)) (show binA Tryz.prog .add 3 (vI k) (vI 1)=some (vI ((k) + 1)) from add_i64 (by omega) (by omega))] .normal hh340 [(163,(vI ((k) + 1))),(23,(vI ((k) + 1)))] ?_ (by intro K'; kernel_rfl)
     exact ⟨l.length - (k + 1).toNat,by omega,⟨k + 1,m2,t2,r2,Ot2,Or2,Oo2,ov2,wv2,(fun i=>([vU,vU,vU,vU,(g0 4),vU,vU,vU,vU,vU,(vP b57 0),(vI nv),(vB true),(g1 13),(g1 14),vU,vU,vU,vU,vU,vU,vU,vU,vU,(vB true),(vP b50 o51),(vA #[(vI v46.dk),(vI v46.id),(vI v46.nw),(vS v46.d.name),(vI v46.d.rt),(vI v46.d.dl),(vL v46.da v46.d.xs.length v46.dc),(vI v46.e1),(vI v46.e2),(vI v46.e3),(vI v46.rs),(vS v46.s.d.name),(vI v46.s.d.rt),(vI v46.s.d.dl),(vL v46.sa v46.s.d.xs.length v46.sc),(vI v46.s.st),(vI v46.s.ix),(vB v46.s.cn),(vI v46.s.tr),(vI v46.s.bg),(vI v46.s.er)]),(vP b57 1),(vI v46.id),(g1 29),(g1 30),(g1 31),(g1 32),(g1 33),(g1 34),(g1 35),(g1 36),(g1 37),(g1 38),(g1 39),(g1 40),(g1 41),(g1 42),(g1 43),(g1 44),(g1 45),(g1 46),(g1 47),(g1 48),(g1 49),(g1 50),(g1 51),(g1 52),(g1 53),(g1 54),(g1 55),(g1 56),(g1 57),(g1 58),(g1 59),(g1 60),(g1 61),(g1 62),(g1 63),(g1 64),(g1 65),(g1 66),(g1 67),(g1 68),(g1 69),(g1 70),(g1 71),(g1 72),(g1 73),(g1 74),(g1 75),(g1 76),(g1 77),(g1 78),(g1 79),(g1 80),(g1 81),(g1 82),(g1 83),(g1 84),(g1 85),(g1 86),(g1 87),(g1 88),(g1 89),(g1 90),(g1 91),(g1 92),(g1 93),(g1 94),(g1 95),(g1 96),(g1 97),(g1 98),(g1 99),(g1 100),(g1 101),(g1 102),(g1 103),(g1 104),(g1 105),(g1 106),(g1 107),(g1 108),(g1 109),(g1 110),(g1 111),(g1 112),(g1 113),(g1 114),(g1 115),(g1 116),(g1 117),(g1 118),(g1 119),(g1 120),(g1 121),(g1 122),(g1 123),(g1 124),(g1 125),(g1 126),(g1 127),(g1 128),(g1 129),(g1 130),(g1 131),(g1 132),(g1 133),(g1 134),(g1 135),(vB true),(vB false),(vB false),(vP t2 0),(vP r2 0),(vI nv),(vB true),(vB false),(vB false),(vB false),(vP t2 0),(vP r2 0),(vI id),(vB true),(vB false),(vB false),(vB false),ov2,(vB false),(vB false),vZ,vZ,vZ,vZ,vZ,(vB false),(vB false),(vI ((k) + 1))]:List Value).getD i undef),by kernel_rfl,x346,rfl,by omega,i323,i324,i325,i326,i327,i328,i329,p343,p344,p345⟩⟩
    ·obtain ⟨_,hh349,sn350,rfl,x351⟩:=shows_old p345 e347 (id) (x346 _ _ hg0) (x346 _ _ hg1)
     have p352:=p343.keep fun b r _ q=>x351 b r q
     have p353:=p344.keep fun b r _ q=>x351 b r q
     have p354:=p345.keep fun b r _ q=>x351 b r q
     have x355:=x346.trans x351
     refine wc_ev [evF 29 6 sn334,evF 29 13 sn341,evV 29 18 (vB true) (show binA Tryz.prog .neq 25 ov2 vN=some (vB true) from by rw [e347]; kernel_rfl),evF 29 23 sn350] .normal hh349 [(136,(vB true)),(137,(vB false)),(138,(vB false)),(139,(vP t2 0)),(140,(vP r2 0)),(141,(vI nv)),(142,(vB true)),(143,(vB false)),(144,(vB false)),(145,(vB false)),(146,(vP t2 0)),(147,(vP r2 0)),(148,(vI id)),(149,(vB true)),(150,(vB false)),(151,(vB false)),(152,(vB false)),(153,ov2),(154,(vB true)),(155,(vB true)),(156,ov2),(157,wv2),(158,(vI id)),(159,(vB true)),(160,(vB false)),(161,(vB false)),(162,(vB false))] ?_ (by intro K'; kernel_rfl)
     refine wc_act { tmps:=#[(vL sa l.length cp),(vI id),vZ,vZ,(g0 4),(vP t2 0),(vP r2 0),ov2,wv2,vZ,(vP b57 0),(vI nv),(vB true),(g1 13),(g1 14),(vL sa l.length cp),(vB true),(vB false),vZ,(vP b12 0),(vP b21 0),(vL sa l.length cp),(vI ((l.length:Nat))),(vI k),(vB true),(vP b50 o51),(vA #[(vI v46.dk),(vI v46.id),(vI v46.nw),(vS v46.d.name),(vI v46.d.rt),(vI v46.d.dl),(vL v46.da v46.d.xs.length v46.dc),(vI v46.e1),(vI v46.e2),(vI v46.e3),(vI v46.rs),(vS v46.s.d.name),(vI v46.s.d.rt),(vI v46.s.d.dl),(vL v46.sa v46.s.d.xs.length v46.sc),(vI v46.s.st),(vI v46.s.ix),(vB v46.s.cn),(vI v46.s.tr),(vI v46.s.bg),(vI v46.s.er)]),(vP b57 1),(vI v46.id),(g1 29),(g1 30),(g1 31),(g1 32),(g1 33),(g1 34),(g1 35),(g1 36),(g1 37),(g1 38),(g1 39),(g1 40),(g1 41),(g1 42),(g1 43),(g1 44),(g1 45),(g1 46),(g1 47),(g1 48),(g1 49),(g1 50),(g1 51),(g1 52),(g1 53),(g1 54),(g1 55),(g1 56),(g1 57),(g1 58),(g1 59),(g1 60),(g1 61),(g1 62),(g1 63),(g1 64),(g1 65),(g1 66),(g1 67),(g1 68),(g1 69),(g1 70),(g1 71),(g1 72),(g1 73),(g1 74),(g1 75),(g1 76),(g1 77),(g1 78),(g1 79),(g1 80),(g1 81),(g1 82),(g1 83),(g1 84),(g1 85),(g1 86),(g1 87),(g1 88),(g1 89),(g1 90),(g1 91),(g1 92),(g1 93),(g1 94),(g1 95),(g1 96),(g1 97),(g1 98),(g1 99),(g1 100),(g1 101),(g1 102),(g1 103),(g1 104),(g1 105),(g1 106),(g1 107),(g1 108),(g1 109),(g1 110),(g1 111),(g1 112),(g1 113),(g1 114),(g1 115),(g1 116),(g1 117),(g1 118),(g1 119),(g1 120),(g1 121),(g1 122),(g1 123),(g1 124),(g1 125),(g1 126),(g1 127),(g1 128),(g1 129),(g1 130),(g1 131),(g1 132),(g1 133),(g1 134),(g1 135),(vB true),(vB false),(vB false),(vP t2 0),(vP r2 0),(vI nv),(vB true),(vB false),(vB false),(vB false),(vP t2 0),(vP r2 0),(vI id),(vB true),(vB false),(vB false),(vB false),ov2,(vB true),(vB true),ov2,wv2,(vI id),(vB true),(vB false),(vB false),(vB false),(g0 163),vZ],defers:=[] } (by kernel_rfl) ?_
     refine wc_ev [evV 31 0 (vI ((k) + 1)) (show binA Tryz.prog .add 3 (vI k) (vI 1)=some (vI ((k) + 1)) from add_i64 (by omega) (by omega))] .normal hh349 [(163,(vI ((k) + 1))),(23,(vI ((k) + 1)))] ?_ (by intro K'; kernel_rfl)
     exact ⟨l.length - (k + 1).toNat,by omega,⟨k + 1,m2,t2,r2,Ot2,Or2,Oo2,ov2,wv2,(fun i=>([vU,vU,vU,vU,(g0 4),vU,vU,vU,vU,vU,(vP b57 0),(vI nv),(vB true),(g1 13),(g1 14),vU,vU,vU,vU,vU,vU,vU,vU,vU,(vB true),(vP b50 o51),(vA #[(vI v46.dk),(vI v46.id),(vI v46.nw),(vS v46.d.name),(vI v46.d.rt),(vI v46.d.dl),(vL v46.da v46.d.xs.length v46.dc),(vI v46.e1),(vI v46.e2),(vI v46.e3),(vI v46.rs),(vS v46.s.d.name),(vI v46.s.d.rt),(vI v46.s.d.dl),(vL v46.sa v46.s.d.xs.length v46.sc),(vI v46.s.st),(vI v46.s.ix),(vB v46.s.cn),(vI v46.s.tr),(vI v46.s.bg),(vI v46.s.er)]),(vP b57 1),(vI v46.id),(g1 29),(g1 30),(g1 31),(g1 32),(g1 33),(g1 34),(g1 35),(g1 36),(g1 37),(g1 38),(g1 39),(g1 40),(g1 41),(g1 42),(g1 43),(g1 44),(g1 45),(g1 46),(g1 47),(g1 48),(g1 49),(g1 50),(g1 51),(g1 52),(g1 53),(g1 54),(g1 55),(g1 56),(g1 57),(g1 58),(g1 59),(g1 60),(g1 61),(g1 62),(g1 63),(g1 64),(g1 65),(g1 66),(g1 67),(g1 68),(g1 69),(g1 70),(g1 71),(g1 72),(g1 73),(g1 74),(g1 75),(g1 76),(g1 77),(g1 78),(g1 79),(g1 80),(g1 81),(g1 82),(g1 83),(g1 84),(g1 85),(g1 86),(g1 87),(g1 88),(g1 89),(g1 90),(g1 91),(g1 92),(g1 93),(g1 94),(g1 95),(g1 96),(g1 97),(g1 98),(g1 99),(g1 100),(g1 101),(g1 102),(g1 103),(g1 104),(g1 105),(g1 106),(g1 107),(g1 108),(g1 109),(g1 110),(g1 111),(g1 112),(g1 113),(g1 114),(g1 115),(g1 116),(g1 117),(g1 118),(g1 119),(g1 120),(g1 121),(g1 122),(g1 123),(g1 124),(g1 125),(g1 126),(g1 127),(g1 128),(g1 129),(g1 130),(g1 131),(g1 132),(g1 133),(g1 134),(g1 135),(vB true),(vB false),(vB false),(vP t2 0),(vP r2 0),(vI nv),(vB true),(vB false),(vB false),(vB false),(vP t2 0),(vP r2 0),(vI id),(vB true),(vB false),(vB false),(vB false),ov2,(vB true),(vB true),ov2,wv2,(vI id),(vB true),(vB false),(vB false),(vB false),(vI ((k) + 1))]:List Value).getD i undef),by kernel_rfl,x355,rfl,by omega,i323,i324,i325,i326,i327,i328,i329,p352,p353,p354⟩⟩
  ·refine wc_ev [ltF 7 0 3 c44] .normal h30 [(24,(vB false))] ?_ (by intro K'; kernel_rfl)
   refine wc_seq' (subc (bodyOf Tryz.prog 3) [1,1,1,1,1,0,1,0,0,1,0]) (subc (bodyOf Tryz.prog 3) [1,1,1,1,1,0,1,0,0,1,1]) (by kernel_rfl) ?_
   refine wc_ev [] (.exit 0) h30 [] ?_ (by intro K'; kernel_rfl)
   obtain ⟨_,hh356,sn357,rfl,x358⟩:=works_ok h30 (x31 _ _ hg0) (x31 _ _ hg1)
   have x359:=x31.trans x358
   refine wc_ev [evF 32 0 sn357] .ret hh356 [(164,(vB true)),(4,(vB true))] ?_ (by intro K'; kernel_rfl)
   exact end_ev [] (vB true) (hK _ _ (⟨rfl,x359⟩))
 ·obtain ⟨_,hh360,sn361,rfl,x362⟩:=works_ok h2 (x7 _ _ hg0) (x7 _ _ hg1)
  have x363:=x7.trans x362
  refine wc_ev [evFb 1 1 c8 s3,evF 2 0 sn361] .ret hh360 [(15,(vL sa l.length cp)),(16,(vB false)),(17,(vB true)),(18,(vB true)),(4,(vB true))] ?_ (by intro K'; kernel_rfl)
  exact end_ev [] (vB true) (hK _ _ (⟨rfl,x363⟩))
end C29
