/- The document's tables. -/
import Derived.Test.YtjkcadbblgefdaaGreatDoorTj
import Derived.Test.YtjkcadbblgefdaaGreatDoorMi
import Derived.KernelRfl
import Derived.Test.YtjkcadbblgefdaaGreatDoorBmn
open Go Go.AM Go.Proofs
namespace C29
theorem agg94:isAggA Tryz.prog 94=some false:=by kernel_rfl
theorem size105:(Tryz.prog.info? 105).map (·.size)=some 11:=by kernel_rfl
theorem und94:Tryz.prog.underlying 94=some (.slice 105):=by kernel_rfl
def entc (p:Int × SagA):Array Value:=#[(vI (p.1)),(vS p.2.1.d.name),(vI (p.2.1.d.rt)),(vI (p.2.1.d.dl)),(Value.slice p.2.2.1 (p.2.1.d.xs.length) (p.2.2.2)),(vI (p.2.1.st)),(vI (p.2.1.ix)),(vB p.2.1.cn),(vI (p.2.1.tr)),(vI (p.2.1.bg)),(vI (p.2.1.er))]
theorem entc_size (p:Int × SagA):(entc p).size=11:=rfl
theorem entc_one (p:Int × SagA):(entc p).toList.all (·.oneCell')=true:=rfl
theorem LstAt.ix {h:Heap} {ms:TabS} (k:LstAt h ms) {j:Nat} {p:Int × SagA} (hp:ms[j]?=some p):LAt h stepc 2 p.2.1.d.xs (sagL p.2):=OwnAt.lat (k _ (List.mem_of_getElem? hp)) stepc_size (tsz_of size67)
theorem LstAt.offO {α:Type} {f:α→Array Value} {e:TypeId} {xs:List α} {v:Value} {h:Heap} {ms:TabS} (k:LstAt h ms) (k2:OwnAt h e f xs v) (he:67 ≠ e):∀ z,lstF ms z→¬ blk v z:=by
 rintro z ⟨p,hp,hz⟩ hb; exact (k p hp).apart k2 he hz hb
theorem LstAt.neO {h:Heap} {ms:TabS} (k:LstAt h ms) {b:Nat} {c:Array Value} {e:TypeId} {fr:Nat × Nat} (hr:h[b]?=some (.cells c e fr)) (he:67 ≠ e):∀ z,lstF ms z→¬ z=b:=by
 rintro z ⟨p,hp,hz⟩; exact (k p hp).ne hr he hz
theorem nil_ne (c:Nat):∀ z,blk (Value.slice none 0 0) z→¬ z=c:=fun _ hb _=>hb.elim
theorem WfT.apartS {ms:TabS} (w:WfT (plT ms)):(ms.map (·.1)).Nodup:=by rw [plT_keys]; exact w.ord.apart
theorem WfT.ixS {ms:TabS} (w:WfT (plT ms)) {j:Nat} {p:Int × SagA} (hp:ms[j]?=some p):chkS p.2.1=0∧findK ms p.1=some p.2:=⟨w.fine _ (plT_mem (List.mem_of_getElem? hp)),findK_of_mem w.apartS (List.mem_of_getElem? hp)⟩
theorem findK_none_at {ms:TabS} {n:Int} (h:∀ (j:Nat) (p:Int × SagA),ms[j]?=some p→¬ p.1=n):findK ms n=none:=by
 cases q:findK ms n with
 | none=>rfl
 | some c =>
  obtain ⟨j,hj⟩:=List.mem_iff_getElem?.1 (findK_mem q)
  exact absurd rfl (h j _ hj)
theorem name_sz {s:ByteArray} (h:nameB s=true):s.size≤16:=by
 unfold nameB at h
 simp only [Bool.and_eq_true,decide_eq_true_eq] at h; omega
theorem def_sizes {d:DefM} (h:defB d=true):d.name.size≤9223372036854775807∧∀ x ∈ d.xs,x.key.size≤9223372036854775807:=by
 have q:=defB_of h
 unfold defB at h
 simp only [Bool.and_eq_true] at h
 refine ⟨by have:=name_sz h.1.1; omega,fun x hx=>?_⟩
 obtain ⟨j,hj⟩:=List.mem_iff_getElem?.1 hx
 have hl:=(List.getElem?_eq_some_iff.1 hj).1
 have g:=List.all_eq_true.1 h.2 j (List.mem_range.2 hl)
 unfold goodAt at g
 rw [hj] at g
 simp only [Bool.and_eq_true] at g
 have g1:=g.1
 unfold stepB at g1
 simp only [Bool.and_eq_true,decide_eq_true_eq] at g1
 have:=name_sz g1.1
 omega
/-- A table of the document: its row, the row of its entries, the rows of their steps. -/
structure RfRow (T E:TypeId) (h:Heap) (O:Nat→Prop) (t:Nat) (ms:TabS) (a:Option Addr) (c:Nat):Prop where
 row:h[t]?=some (.cells #[.slice a ms.length c] T (0,0))
 ents:OwnAt h E entc ms (.slice a ms.length c)
 lists:LstAt h ms
 foot:∀ z,O z ↔ z=t ∨ blk (.slice a ms.length c) z ∨ lstF ms z
def RfAt (T E:TypeId) (h:Heap) (O:Nat→Prop) (t:Nat) (m:Tab):Prop:=∃ ms a c,plT ms=m∧RfRow T E h O t ms a c
section
variable {T E : TypeId} {h h1 : Heap} {O : Nat → Prop} {t : Nat} {m : Tab} {ms : TabS} {a : Option Addr} {c : Nat}
theorem RfRow.keep (k:RfRow T E h O t ms a c) (w:∀ b r,O b→h[b]?=some r→h1[b]?=some r):RfRow T E h1 O t ms a c :=
 ⟨w _ _ ((k.foot _).2 (.inl rfl)) k.row,k.ents.keep fun b r hb q=>w b r ((k.foot _).2 (.inr (.inl hb))) q,k.lists.keep fun b r hb q=>w b r ((k.foot _).2 (.inr (.inr hb))) q,k.foot⟩
theorem RfAt.keep (k:RfAt T E h O t m) (w:∀ b r,O b→h[b]?=some r→h1[b]?=some r):RfAt T E h1 O t m:=by
 obtain ⟨ms,a,c,e,k⟩:=k; exact ⟨ms,a,c,e,k.keep w⟩
theorem RfRow.celled (k:RfRow T E h O t ms a c):Celled h O:=by
 intro z hz
 rcases (k.foot z).1 hz with rfl | hz | hz
 ·exact ⟨_,_,_,k.row⟩
 ·exact k.ents.celled z hz
 ·exact k.lists.celled z hz
theorem RfAt.celled (k:RfAt T E h O t m):Celled h O:=by
 obtain ⟨ms,a,c,e,k⟩:=k; exact k.celled
theorem RfAt.blk_lt (k:RfAt T E h O t m) {b:Nat} (hb:O b):b < h.size:=k.celled.data.blk_lt hb
theorem rf_new {ms:TabS} {a:Option Addr} {n c:Nat} (hn:ms.length=n) (hr:h[t]?=some (.cells #[.slice a n c] T (0,0))) (he:OwnAt h E entc ms (.slice a n c)) (hl:LstAt h ms) :
  RfAt T E h (fun z=>z=t ∨ blk (.slice a n c) z ∨ lstF ms z) t (plT ms):=by
 subst hn; exact ⟨ms,a,c,rfl,hr,he,hl,fun _=>Iff.rfl⟩
end
set_option maxHeartbeats 4000000 in
theorem rnew_ok (h:Heap) :WCall Tryz.prog 13 #[] h (fun v h1=>∃ b O,v=.pointer (some ⟨b,0,none⟩)∧RfAt 96 105 h1 O b []∧Ext h h1∧∀ z,O z→h.size≤z):=by
 obtain ⟨b1,eb2⟩:∃ zq,zq=h.size:=⟨_,rfl⟩
 obtain ⟨h3,e4⟩:∃ zq,zq=h.push (.cells #[(Value.slice none 0 0)] 96 (0,0)):=⟨_,rfl⟩
 have f5:=push_new e4
 rw [← eb2] at f5
 have x6:Ext h h3:=by rw [e4]; exact Ext.push _ _
 have o7:h.size≤b1:=by have:=(Ext.refl h).size; omega
 have x8:=(Ext.refl h).trans x6
 exact hCall_ev [evA 1 1 eb2 e4] [] (vP b1 0) h3 ⟨b1,_,rfl,rf_new (ms:=[]) (a:=none) (c:=0) rfl f5 (.inl ⟨rfl,rfl⟩) (fun p hp=>absurd hp (by simp)),x8,fun z hz=>hz.elim (fun w=>by have:=o7; omega) (fun w=>w.elim (fun q=>q.elim) (fun ⟨p,hp,_⟩=>absurd hp (by simp)))⟩
set_option maxRecDepth 10000 in
set_option maxHeartbeats 4000000 in
theorem rfind_r (h:Heap) {O:Nat→Prop} {t:Nat} {ms:TabS} {ea:Option Addr} {ec:Nat} (T:RfRow 96 105 h O t ms ea ec) (ok:WfT (plT ms)) (n:Int):WCall Tryz.prog 60 #[(vP t 0),(vI (n))] h (fun v h1=>(∃ i:Int,v=.int .i64 i∧((findK ms n=none∧i = -1) ∨ ∃ p,0≤i∧ms[i.toNat]?=some p∧p.1=n∧findK ms n=some p.2))∧h=h1):=by
 have hpl:=plT_len ms
 have hfew:=ok.few
 have hT':RfAt 96 105 h O t (plT ms):=⟨ms,ea,ec,rfl,T⟩
 refine wcall_by fun K hK=>?_
 refine wcall_at { tmps:=#[(vP t 0),(vI n),vZ,vZ,vZ,vZ,vZ,vZ,vZ,vZ,vZ,vZ,vZ,vZ,vZ,vZ,vZ,vZ,vZ,vZ,vZ,vZ,vZ,vZ,vZ,vZ],defers:=[] } (by kernel_rfl) ?_
 refine wc_seq' (subc (bodyOf Tryz.prog 60) [0]) (subc (bodyOf Tryz.prog 60) [1]) (by kernel_rfl) ?_
 refine wc_ev [] .normal h [(4,(vI 0))] ?_
 refine wc_seq' (subc (bodyOf Tryz.prog 60) [1,0]) (subc (bodyOf Tryz.prog 60) [1,1]) (by kernel_rfl) ?_
 refine wc_seq' (subc (bodyOf Tryz.prog 60) [1,0,0]) (subc (bodyOf Tryz.prog 60) [1,0,1]) (by kernel_rfl) ?_
 refine wc_ev [] .normal h [(5,(vI 0))] ?_
 refine wc_block' 0 (subc (bodyOf Tryz.prog 60) [1,0,1,0]) (by kernel_rfl) ?_
 refine wc_loop' (subc (bodyOf Tryz.prog 60) [1,0,1,0,0]) (by kernel_rfl) (fun n' a' h'=>∃ (k:Int) (g0:Nat→Value),a'={ tmps:=#[(vP t 0),(vI n),vZ,vZ,(g0 4),(vI k),(g0 6),(g0 7),(g0 8),(g0 9),(g0 10),(g0 11),(g0 12),(g0 13),(g0 14),(g0 15),(g0 16),(g0 17),(g0 18),(g0 19),(g0 20),(g0 21),(g0 22),(g0 23),(g0 24),(g0 25)],defers:=[] }∧h=h'∧n'=ms.length - k.toNat∧(0≤k∧k≤(ms.length:Nat))∧(∀ (j:Nat) (p:Int × SagA),j < k.toNat→ms[j]?=some p→¬ p.1=n)) ?_ (ms.length - (0:Int).toNat) ⟨0,(fun i=>([vU,vU,vU,vU,(vI 0),vU,vZ,vZ,vZ,vZ,vZ,vZ,vZ,vZ,vZ,vZ,vZ,vZ,vZ,vZ,vZ,vZ,vZ,vZ,vZ,vZ]:List Value).getD i undef),by as_aux_lemma=>kernel_rfl,rfl,rfl,by omega,fun j p hj _=>absurd hj (by omega)⟩
 rintro n' _ _ ⟨k,g0,rfl,rfl,m1,i2,i3⟩
 by_cases c4:((k):Int) < ((ms.length:Nat))
 ·obtain ⟨i5,v6,e7,l8,g9⟩:=list_at ms (e:=(k)) (by omega) (by first | omega | (simp only [List.length_set,List.length_append,List.length_singleton]; omega))
  obtain ⟨b10,o11,k12,q13,a14⟩:=(T.ents.slice entc_size).at entc_size g9
  obtain ⟨cz15,fz16⟩:=ok.ixS g9
  have dz17:=defB_of (chkS_zero cz15).1
  have iz18:=ok.ids _ (plT_mem (List.mem_of_getElem? g9))
  by_cases c19:((v6.1):Int)=(n)
  ·refine wc_ev [evC 2 4 0 agg94 T.row,ltT 2 6 3 c4,evC 4 3 0 agg94 T.row,evV 4 5 (vP b10 o11) (show indexAddrA Tryz.prog 94 (vL ea ms.length ec) (vI k)=some (vP b10 o11) from a14 und94 size105 e7),evV 4 7 (vI v6.1) (show loadT Tryz.prog h 3 (vP b10 o11)=some (vI v6.1) from (k12.keep fun b r _ q=>(Ext.refl h) b r q).cell (j:=0) agg3 rfl),eqT 4 9 3 c19] .ret h [(6,(vI k)),(7,(vP t 0)),(8,(vP t 0)),(9,(vP t 0)),(10,(vL ea ms.length ec)),(11,(vI ((ms.length:Nat)))),(12,(vB true)),(15,(vP t 0)),(16,(vP t 0)),(17,(vP t 0)),(18,(vL ea ms.length ec)),(19,(vI k)),(20,(vP b10 o11)),(21,(vP b10 o11)),(22,(vI v6.1)),(23,(vI n)),(24,(vB true)),(25,(vI k)),(4,(vI k))] ?_
   have k9:v6.1=n:=c19
   exact end_ev [] (vI k) (hK _ _ (⟨⟨_,rfl,.inr ⟨v6,by omega,by rw [show k.toNat=i5 by omega]; exact g9,k9,by rw [← k9]; exact fz16⟩⟩,rfl⟩))
  ·refine wc_ev [evC 2 4 0 agg94 T.row,ltT 2 6 3 c4,evC 4 3 0 agg94 T.row,evV 4 5 (vP b10 o11) (show indexAddrA Tryz.prog 94 (vL ea ms.length ec) (vI k)=some (vP b10 o11) from a14 und94 size105 e7),evV 4 7 (vI v6.1) (show loadT Tryz.prog h 3 (vP b10 o11)=some (vI v6.1) from (k12.keep fun b r _ q=>(Ext.refl h) b r q).cell (j:=0) agg3 rfl),eqF 4 9 3 c19,evV 3 1 (vI ((k) + 1)) (show binA Tryz.prog .add 3 (vI k) (vI 1)=some (vI ((k) + 1)) from add_i64 (by omega) (by omega))] .normal h [(6,(vI k)),(7,(vP t 0)),(8,(vP t 0)),(9,(vP t 0)),(10,(vL ea ms.length ec)),(11,(vI ((ms.length:Nat)))),(12,(vB true)),(15,(vP t 0)),(16,(vP t 0)),(17,(vP t 0)),(18,(vL ea ms.length ec)),(19,(vI k)),(20,(vP b10 o11)),(21,(vP b10 o11)),(22,(vI v6.1)),(23,(vI n)),(24,(vB false)),(13,(vI k)),(14,(vI ((k) + 1))),(5,(vI ((k) + 1)))] ?_
   exact ⟨ms.length - (k + 1).toNat,by omega,⟨k + 1,(fun i=>([vU,vU,vU,vU,(g0 4),vU,(vI k),(vP t 0),(vP t 0),(vP t 0),(vL ea ms.length ec),(vI ((ms.length:Nat))),(vB true),(vI k),(vI ((k) + 1)),(vP t 0),(vP t 0),(vP t 0),(vL ea ms.length ec),(vI k),(vP b10 o11),(vP b10 o11),(vI v6.1),(vI n),(vB false),(g0 25)]:List Value).getD i undef),by as_aux_lemma=>kernel_rfl,rfl,rfl,by omega,fun j' p hj w=>by
     rcases Nat.lt_or_eq_of_le (Nat.le_of_lt_succ (show j' < k.toNat + 1 by omega)) with g | g
     ·exact i3 j' p g w
     ·rw [show j'=i5 by omega] at w; rw [w] at g9; cases g9; exact c19⟩⟩
 ·refine wc_ev [evC 2 4 0 agg94 T.row,ltF 2 6 3 c4] (.exit 0) h [(6,(vI k)),(7,(vP t 0)),(8,(vP t 0)),(9,(vP t 0)),(10,(vL ea ms.length ec)),(11,(vI ((ms.length:Nat)))),(12,(vB false))] ?_
  refine wc_ev [] .ret h [(4,(vI (-1)))] ?_
  have fn9:findK ms n=none:=findK_none_at fun j p hp=>i3 j p (by have:=(List.getElem?_eq_some_iff.1 hp).1; omega) hp
  exact end_ev [] (vI (-1)) (hK _ _ (⟨⟨_,rfl,.inl ⟨fn9,rfl⟩⟩,rfl⟩))
set_option maxRecDepth 10000 in
set_option maxHeartbeats 4000000 in
theorem rget_ok_r (h:Heap) {O:Nat→Prop} {t:Nat} {ms:TabS} {ea:Option Addr} {ec:Nat} (T:RfRow 96 105 h O t ms ea ec) (ok:WfT (plT ms)) (n:Int):WCall Tryz.prog 67 #[(vP t 0),(vI (n))] h (fun v h1=>(¬ getE (plT ms) n=0→v=.tuple #[(Value.agg #[(vS .empty),(vI 0),(vI 0),(Value.slice none 0 0),(vI 0),(vI 0),(vB false),(vI 0),(vI 0),(vI 0)]),.int .i64 (getE (plT ms) n)])∧(getE (plT ms) n=0→∃ w cw,v=.tuple #[(Value.agg #[(vS (getS (plT ms) n).d.name),(vI ((getS (plT ms) n).d.rt)),(vI ((getS (plT ms) n).d.dl)),(Value.slice w ((getS (plT ms) n).d.xs.length) (cw)),(vI ((getS (plT ms) n).st)),(vI ((getS (plT ms) n).ix)),(vB (getS (plT ms) n).cn),(vI ((getS (plT ms) n).tr)),(vI ((getS (plT ms) n).bg)),(vI ((getS (plT ms) n).er))]),.int .i64 0]∧OwnAt h1 67 stepc (getS (plT ms) n).d.xs (.slice w (getS (plT ms) n).d.xs.length cw)∧∀ b,blk (.slice w (getS (plT ms) n).d.xs.length cw) b→h.size≤b)∧Ext h h1):=by
 have hpl:=plT_len ms
 have hfew:=ok.few
 have hT':RfAt 96 105 h O t (plT ms):=⟨ms,ea,ec,rfl,T⟩
 refine wcall_by fun K hK=>?_
 refine wcall_at { tmps:=#[(vP t 0),(vI n),vZ,vZ,vZ,vZ,vZ,vZ,vZ,vZ,vZ,vZ,vZ,vZ,vZ,vZ,vZ,vZ,vZ,vZ,vZ,vZ],defers:=[] } (by kernel_rfl) ?_
 obtain ⟨b1,eb2⟩:∃ zq,zq=h.size:=⟨_,rfl⟩
 obtain ⟨h3,e4⟩:∃ zq,zq=h.push (.cells #[(vS .empty),(vI 0),(vI 0),(Value.slice none 0 0),(vI 0),(vI 0),(vB false),(vI 0),(vI 0),(vI 0)] 51 (0,0)):=⟨_,rfl⟩
 have f5:=push_new e4
 rw [← eb2] at f5
 have x6:Ext h h3:=by rw [e4]; exact Ext.push _ _
 have o7:h.size≤b1:=by have:=(Ext.refl h).size; omega
 have x8:=(Ext.refl h).trans x6
 obtain ⟨_,_,s9,⟨iv10,rfl,q11⟩,rfl⟩:=rfind_r h3 (T.keep fun b r _ q=>x8 b r q) ok (n)
 rcases q11 with ⟨f12,rfl⟩ | ⟨pe13,iv14,g15,k16,f17⟩
 ·obtain ⟨h18,e19⟩:∃ zq,zq=h3.setIfInBounds b1 (.cells #[(vS .empty),(vI 0),(vI 0),(Value.slice none 0 0),(vI 0),(vI 0),(vB false),(vI 0),(vI 0),(vI 0)] 51 (0,0)):=⟨_,rfl⟩
  have f20:=set_same e19 f5
  have x21:=Ext.setNew x8 e19 o7
  refine wc_ev [evA 0 0 eb2 e4,evF 1 2 s9,evUw 3 1 size51 f5 e19] .ret h18 [(4,(vP b1 0)),(5,(vI 0)),(7,(vP t 0)),(8,(vI n)),(9,(vI (-1))),(6,(vI (-1))),(10,(vI (-1))),(11,(vB true)),(12,(vA #[(vS .empty),(vI 0),(vI 0),(vL none 0 0),(vI 0),(vI 0),(vB false),(vI 0),(vI 0),(vI 0)])),(5,(vI 5))] ?_
  have gg:=(getE_none (plT_no f12)).1
  exact end_ev [evLw 0 0 agg51 size51 f20,evR (vI 5)] (vT #[(vA #[(vS .empty),(vI 0),(vI 0),(vL none 0 0),(vI 0),(vI 0),(vB false),(vI 0),(vI 0),(vI 0)]),(vI 5)]) (hK _ _ (⟨fun _=>by rw [gg],fun w=>absurd (w.symm.trans gg) (by decide),x21⟩))
 ·obtain ⟨j22,e23⟩:∃ z:Nat,iv10=(z:Int):=⟨iv10.toNat,by omega⟩
  have g24:ms[j22]?=some pe13:=by rw [show j22=iv10.toNat by omega]; exact g15
  have l25:=(List.getElem?_eq_some_iff.1 g24).1
  obtain ⟨b26,o27,k28,q29,a30⟩:=(T.ents.slice entc_size).at entc_size g24
  obtain ⟨cz31,fz32⟩:=ok.ixS g24
  have dz33:=defB_of (chkS_zero cz31).1
  have iz34:=ok.ids _ (plT_mem (List.mem_of_getElem? g24))
  obtain ⟨_,h35,s36,w37,c38,rfl,o39,x40,b41⟩:=rcopys_ok h3 pe13.2.1 _ _ ((T.lists.keep fun b r _ q=>x8 b r q).ix g24) (by omega)
  have f42:=x40 _ _ f5
  have x43:=x8.trans x40
  have z44:h.size≤h3.size:=x8.size
  have n45:∀ zz,blk (Value.slice w37 (pe13.2.1.d.xs.length) (c38)) zz→¬ zz=b1:=fun zz hz ez=>by have:=b41 zz hz; have:=row_lt f5; omega
  have o46:∀ zz,blk (Value.slice w37 (pe13.2.1.d.xs.length) (c38)) zz→h.size≤zz:=fun zz hz=>by have:=b41 zz hz; omega
  obtain ⟨h47,e48⟩:∃ zq,zq=h35.setIfInBounds b1 (.cells #[(vS pe13.2.1.d.name),(vI (pe13.2.1.d.rt)),(vI (pe13.2.1.d.dl)),(Value.slice w37 (pe13.2.1.d.xs.length) (c38)),(vI (pe13.2.1.st)),(vI (pe13.2.1.ix)),(vB pe13.2.1.cn),(vI (pe13.2.1.tr)),(vI (pe13.2.1.bg)),(vI (pe13.2.1.er))] 51 (0,0)):=⟨_,rfl⟩
  have f49:=set_same e48 f42
  have p50:=o39.keep fun b r hb q=>(Chg.set e48).same b r q (n45 b hb)
  have x51:=Ext.setNew x43 e48 o7
  refine wc_ev [evA 0 0 eb2 e4,evF 1 2 s9,evV 2 1 (vB false) (show binA Tryz.prog .lss 3 (vI iv10) (vI 0)=some (vB false) from cmp_lss (decide_eq_false (show ¬ ((iv10):Int) < 0 by omega))),evC 4 3 0 agg94 (x8 _ _ T.row),evV 4 5 (vP b26 o27) (show indexAddrA Tryz.prog 94 (vL ea ms.length ec) (vI iv10)=some (vP b26 o27) from a30 und94 size105 e23),evV 4 7 (vA #[(vS pe13.2.1.d.name),(vI pe13.2.1.d.rt),(vI pe13.2.1.d.dl),(vL pe13.2.2.1 pe13.2.1.d.xs.length pe13.2.2.2),(vI pe13.2.1.st),(vI pe13.2.1.ix),(vB pe13.2.1.cn),(vI pe13.2.1.tr),(vI pe13.2.1.bg),(vI pe13.2.1.er)]) (show loadT Tryz.prog h3 51 (vP b26 (o27 + 1))=some (vA #[(vS pe13.2.1.d.name),(vI pe13.2.1.d.rt),(vI pe13.2.1.d.dl),(vL pe13.2.2.1 pe13.2.1.d.xs.length pe13.2.2.2),(vI pe13.2.1.st),(vI pe13.2.1.ix),(vB pe13.2.1.cn),(vI pe13.2.1.tr),(vI pe13.2.1.bg),(vI pe13.2.1.er)]) from (k28.keep fun b r _ q=>x8 b r q).agg (j:=1) agg51 size51 (show 1 + 10≤11 by decide) (by kernel_rfl)),evF 4 8 s36,evUw 4 9 size51 f42 e48] .ret h47 [(4,(vP b1 0)),(5,(vI 0)),(7,(vP t 0)),(8,(vI n)),(9,(vI iv10)),(6,(vI iv10)),(10,(vI iv10)),(11,(vB false)),(13,(vP t 0)),(14,(vP t 0)),(15,(vP t 0)),(16,(vL ea ms.length ec)),(17,(vI iv10)),(18,(vP b26 o27)),(19,(vP b26 (o27 + 1))),(20,(vA #[(vS pe13.2.1.d.name),(vI pe13.2.1.d.rt),(vI pe13.2.1.d.dl),(vL pe13.2.2.1 pe13.2.1.d.xs.length pe13.2.2.2),(vI pe13.2.1.st),(vI pe13.2.1.ix),(vB pe13.2.1.cn),(vI pe13.2.1.tr),(vI pe13.2.1.bg),(vI pe13.2.1.er)])),(21,(vA #[(vS pe13.2.1.d.name),(vI pe13.2.1.d.rt),(vI pe13.2.1.d.dl),(vL w37 pe13.2.1.d.xs.length c38),(vI pe13.2.1.st),(vI pe13.2.1.ix),(vB pe13.2.1.cn),(vI pe13.2.1.tr),(vI pe13.2.1.bg),(vI pe13.2.1.er)])),(5,(vI 0))] ?_
  obtain ⟨g1,g2⟩:=getE_some (plT_some f17)
  exact end_ev [evLw 0 0 agg51 size51 f49,evR (vI 0)] (vT #[(vA #[(vS pe13.2.1.d.name),(vI pe13.2.1.d.rt),(vI pe13.2.1.d.dl),(vL w37 pe13.2.1.d.xs.length c38),(vI pe13.2.1.st),(vI pe13.2.1.ix),(vB pe13.2.1.cn),(vI pe13.2.1.tr),(vI pe13.2.1.bg),(vI pe13.2.1.er)]),(vI 0)]) (hK _ _ (⟨fun w=>absurd g1 w,fun _=>⟨w37,c38,by rw [g2],by rw [g2]; exact p50,by rw [g2]; exact o46⟩,x51⟩))
theorem rget_ok (h:Heap) {O:Nat→Prop} {t:Nat} {m:Tab} (hT:RfAt 96 105 h O t m) (ok:WfT m) (n:Int):WCall Tryz.prog 67 #[(vP t 0),(vI (n))] h (fun v h1=>(¬ getE m n=0→v=.tuple #[(Value.agg #[(vS .empty),(vI 0),(vI 0),(Value.slice none 0 0),(vI 0),(vI 0),(vB false),(vI 0),(vI 0),(vI 0)]),.int .i64 (getE m n)])∧(getE m n=0→∃ w cw,v=.tuple #[(Value.agg #[(vS (getS m n).d.name),(vI ((getS m n).d.rt)),(vI ((getS m n).d.dl)),(Value.slice w ((getS m n).d.xs.length) (cw)),(vI ((getS m n).st)),(vI ((getS m n).ix)),(vB (getS m n).cn),(vI ((getS m n).tr)),(vI ((getS m n).bg)),(vI ((getS m n).er))]),.int .i64 0]∧OwnAt h1 67 stepc (getS m n).d.xs (.slice w (getS m n).d.xs.length cw)∧∀ b,blk (.slice w (getS m n).d.xs.length cw) b→h.size≤b)∧Ext h h1):=by
 obtain ⟨ms,ea,ec,rfl,T⟩:=hT
 exact rget_ok_r h T ok n
set_option maxRecDepth 10000 in
set_option maxHeartbeats 4000000 in
theorem ropen_r (h:Heap) {O:Nat→Prop} {t:Nat} {ms:TabS} {ea:Option Addr} {ec:Nat} (T:RfRow 96 105 h O t ms ea ec) (ok:WfT (plT ms)) {i:Int} {j:Nat} {p:Int × SagA} (hi:i=(j:Int)) (hx:ms[j]?=some p):WCall Tryz.prog 56 #[(vP t 0),(vI (i))] h (fun v h1=>v=.bool (decide (p.2.1.st < 4))∧Ext h h1):=by
 have hpl:=plT_len ms
 have hfew:=ok.few
 have hT':RfAt 96 105 h O t (plT ms):=⟨ms,ea,ec,rfl,T⟩
 have hlt:=(List.getElem?_eq_some_iff.1 hx).1
 refine wcall_by fun K hK=>?_
 refine wcall_at { tmps:=#[(vP t 0),(vI i),vZ,vZ,vZ,vZ,vZ,vZ,vZ,vZ,vZ,vZ,vZ,vZ,vZ,vZ,vZ,vZ,vZ,vZ,vZ],defers:=[] } (by kernel_rfl) ?_
 obtain ⟨b1,o2,k3,q4,a5⟩:=(T.ents.slice entc_size).at entc_size hx
 obtain ⟨cz6,fz7⟩:=ok.ixS hx
 have dz8:=defB_of (chkS_zero cz6).1
 have iz9:=ok.ids _ (plT_mem (List.mem_of_getElem? hx))
 obtain ⟨_,h10,s11,rfl,x12⟩:=endV_ok h p.2.1 _ _ (T.lists.ix hx) (by omega) (def_sizes (chkS_zero cz6).1).1 (def_sizes (chkS_zero cz6).1).2
 have x13:=(Ext.refl h).trans x12
 obtain ⟨z12977d,z12977b,z12977o⟩:=chkS_zero cz6
 have:=defB_of z12977d
 have:=budB_of z12977b
 have z12977i:=okI_of z12977o
 have:=z12977i.1
 by_cases c14:((p.2.1.st):Int) < 4
 ·refine wc_ev [evC 1 3 0 agg94 T.row,evV 1 5 (vP b1 o2) (show indexAddrA Tryz.prog 94 (vL ea ms.length ec) (vI i)=some (vP b1 o2) from a5 und94 size105 hi),evV 1 7 (vA #[(vS p.2.1.d.name),(vI p.2.1.d.rt),(vI p.2.1.d.dl),(vL p.2.2.1 p.2.1.d.xs.length p.2.2.2),(vI p.2.1.st),(vI p.2.1.ix),(vB p.2.1.cn),(vI p.2.1.tr),(vI p.2.1.bg),(vI p.2.1.er)]) (show loadT Tryz.prog h 51 (vP b1 (o2 + 1))=some (vA #[(vS p.2.1.d.name),(vI p.2.1.d.rt),(vI p.2.1.d.dl),(vL p.2.2.1 p.2.1.d.xs.length p.2.2.2),(vI p.2.1.st),(vI p.2.1.ix),(vB p.2.1.cn),(vI p.2.1.tr),(vI p.2.1.bg),(vI p.2.1.er)]) from (k3.keep fun b r _ q=>(Ext.refl h) b r q).agg (j:=1) agg51 size51 (show 1 + 10≤11 by decide) (by kernel_rfl)),evF 1 8 (by rw [endV_open cz6 c14] at s11; exact s11)] .ret h10 [(4,(vB false)),(8,(vP t 0)),(9,(vP t 0)),(10,(vP t 0)),(11,(vL ea ms.length ec)),(12,(vI i)),(13,(vP b1 o2)),(14,(vP b1 (o2 + 1))),(15,(vA #[(vS p.2.1.d.name),(vI p.2.1.d.rt),(vI p.2.1.d.dl),(vL p.2.2.1 p.2.1.d.xs.length p.2.2.2),(vI p.2.1.st),(vI p.2.1.ix),(vB p.2.1.cn),(vI p.2.1.tr),(vI p.2.1.bg),(vI p.2.1.er)])),(16,(vT #[(vB false),(vI 0)])),(7,(vT #[(vB false),(vI 0)])),(17,(vB false)),(18,(vI 0)),(5,(vB false)),(6,(vI 0)),(19,(vB false)),(20,(vB true)),(4,(vB true))] ?_
  exact end_ev [] (vB true) (hK _ _ (⟨by rw [decide_eq_true c14],x13⟩))
 ·refine wc_ev [evC 1 3 0 agg94 T.row,evV 1 5 (vP b1 o2) (show indexAddrA Tryz.prog 94 (vL ea ms.length ec) (vI i)=some (vP b1 o2) from a5 und94 size105 hi),evV 1 7 (vA #[(vS p.2.1.d.name),(vI p.2.1.d.rt),(vI p.2.1.d.dl),(vL p.2.2.1 p.2.1.d.xs.length p.2.2.2),(vI p.2.1.st),(vI p.2.1.ix),(vB p.2.1.cn),(vI p.2.1.tr),(vI p.2.1.bg),(vI p.2.1.er)]) (show loadT Tryz.prog h 51 (vP b1 (o2 + 1))=some (vA #[(vS p.2.1.d.name),(vI p.2.1.d.rt),(vI p.2.1.d.dl),(vL p.2.2.1 p.2.1.d.xs.length p.2.2.2),(vI p.2.1.st),(vI p.2.1.ix),(vB p.2.1.cn),(vI p.2.1.tr),(vI p.2.1.bg),(vI p.2.1.er)]) from (k3.keep fun b r _ q=>(Ext.refl h) b r q).agg (j:=1) agg51 size51 (show 1 + 10≤11 by decide) (by kernel_rfl)),evF 1 8 (by rw [endV_done cz6 c14] at s11; exact s11)] .ret h10 [(4,(vB false)),(8,(vP t 0)),(9,(vP t 0)),(10,(vP t 0)),(11,(vL ea ms.length ec)),(12,(vI i)),(13,(vP b1 o2)),(14,(vP b1 (o2 + 1))),(15,(vA #[(vS p.2.1.d.name),(vI p.2.1.d.rt),(vI p.2.1.d.dl),(vL p.2.2.1 p.2.1.d.xs.length p.2.2.2),(vI p.2.1.st),(vI p.2.1.ix),(vB p.2.1.cn),(vI p.2.1.tr),(vI p.2.1.bg),(vI p.2.1.er)])),(16,(vT #[(vB true),(vI 0)])),(7,(vT #[(vB true),(vI 0)])),(17,(vB true)),(18,(vI 0)),(5,(vB true)),(6,(vI 0)),(19,(vB true)),(20,(vB false)),(4,(vB false))] ?_
  exact end_ev [] (vB false) (hK _ _ (⟨by rw [decide_eq_false c14],x13⟩))
set_option maxRecDepth 10000 in
set_option maxHeartbeats 4000000 in
theorem rnext_r (h:Heap) {O:Nat→Prop} {t:Nat} {ms:TabS} {ea:Option Addr} {ec:Nat} (T:RfRow 96 105 h O t ms ea ec) (ok:WfT (plT ms)) {i:Int} {j:Nat} {p:Int × SagA} (hi:i=(j:Int)) (hx:ms[j]?=some p) (ho:p.2.1.st < 4):WCall Tryz.prog 57 #[(vP t 0),(vI (i))] h (fun v h1=>v=(Value.agg #[(vI (p.1)),(vI (p.2.1.ix)),(vI (phS p.2.1.st))])∧Ext h h1):=by
 have hpl:=plT_len ms
 have hfew:=ok.few
 have hT':RfAt 96 105 h O t (plT ms):=⟨ms,ea,ec,rfl,T⟩
 have hlt:=(List.getElem?_eq_some_iff.1 hx).1
 refine wcall_by fun K hK=>?_
 refine wcall_at { tmps:=#[(vP t 0),(vI i),vZ,vZ,vZ,vZ,vZ,vZ,vZ,vZ,vZ,vZ,vZ,vZ,vZ,vZ,vZ,vZ,vZ,vZ,vZ,vZ,vZ,vZ,vZ,vZ,vZ,vZ,vZ,vZ,vZ],defers:=[] } (by kernel_rfl) ?_
 obtain ⟨b1,eb2⟩:∃ zq,zq=h.size:=⟨_,rfl⟩
 obtain ⟨h3,e4⟩:∃ zq,zq=h.push (.cells #[(vI 0),(vI 0),(vI 0)] 33 (0,0)):=⟨_,rfl⟩
 have f5:=push_new e4
 rw [← eb2] at f5
 have x6:Ext h h3:=by rw [e4]; exact Ext.push _ _
 have o7:h.size≤b1:=by have:=(Ext.refl h).size; omega
 have x8:=(Ext.refl h).trans x6
 obtain ⟨b9,o10,k11,q12,a13⟩:=(T.ents.slice entc_size).at entc_size hx
 obtain ⟨cz14,fz15⟩:=ok.ixS hx
 have dz16:=defB_of (chkS_zero cz14).1
 have iz17:=ok.ids _ (plT_mem (List.mem_of_getElem? hx))
 obtain ⟨_,h18,s19,rfl,x20⟩:=rnextV_can h3 p.2.1 _ _ ((T.lists.keep fun b r _ q=>x8 b r q).ix hx) (by omega) (def_sizes (chkS_zero cz14).1).1 (def_sizes (chkS_zero cz14).1).2
 have f21:=x20 _ _ f5
 have x22:=x8.trans x20
 obtain ⟨z13007d,z13007b,z13007o⟩:=chkS_zero cz14
 have:=defB_of z13007d
 have:=budB_of z13007b
 have z13007i:=okI_of z13007o
 have:=z13007i.1
 obtain ⟨b23,eb24⟩:∃ zq,zq=h18.size:=⟨_,rfl⟩
 obtain ⟨h25,e26⟩:∃ zq,zq=h18.push (.cells #[(vI 0),(vI 0),(vI 0)] 33 (0,0)):=⟨_,rfl⟩
 have f27:=push_new e26
 rw [← eb24] at f27
 have n28:b23 ≠ b1:=by have:=row_lt f21; omega
 have x29:Ext h18 h25:=by rw [e26]; exact Ext.push _ _
 have o30:h.size≤b23:=by have:=x22.size; omega
 have f31:=x29 _ _ f21
 have x32:=x22.trans x29
 obtain ⟨h33,e34⟩:∃ zq,zq=h25.setIfInBounds b23 (.cells #[(vI 0),(vI (p.2.1.ix)),(vI (phS (p.2.1.st)))] 33 (0,0)):=⟨_,rfl⟩
 have f35:=set_same e34 f27
 have f36:=set_other e34 f31 n28
 have x37:=Ext.setNew x32 e34 o30
 obtain ⟨b38,o39,k40,q41,a42⟩:=(T.ents.slice entc_size).at entc_size hx
 obtain ⟨cz43,fz44⟩:=ok.ixS hx
 have dz45:=defB_of (chkS_zero cz43).1
 have iz46:=ok.ids _ (plT_mem (List.mem_of_getElem? hx))
 obtain ⟨h47,e48⟩:∃ zq,zq=h33.setIfInBounds b23 (.cells #[(vI (p.1)),(vI (p.2.1.ix)),(vI (phS (p.2.1.st)))] 33 (0,0)):=⟨_,rfl⟩
 have f49:=set_same e48 f35
 have f50:=set_other e48 f36 n28
 have x51:=Ext.setNew x37 e48 o30
 obtain ⟨h52,e53⟩:∃ zq,zq=h47.setIfInBounds b1 (.cells #[(vI (p.1)),(vI (p.2.1.ix)),(vI (phS (p.2.1.st)))] 33 (0,0)):=⟨_,rfl⟩
 have f54:=set_same e53 f50
 have x55:=Ext.setNew x51 e53 o7
 refine wc_ev [evA 0 0 eb2 e4,evC 1 3 0 agg94 (x8 _ _ T.row),evV 1 5 (vP b9 o10) (show indexAddrA Tryz.prog 94 (vL ea ms.length ec) (vI i)=some (vP b9 o10) from a13 und94 size105 hi),evV 1 7 (vA #[(vS p.2.1.d.name),(vI p.2.1.d.rt),(vI p.2.1.d.dl),(vL p.2.2.1 p.2.1.d.xs.length p.2.2.2),(vI p.2.1.st),(vI p.2.1.ix),(vB p.2.1.cn),(vI p.2.1.tr),(vI p.2.1.bg),(vI p.2.1.er)]) (show loadT Tryz.prog h3 51 (vP b9 (o10 + 1))=some (vA #[(vS p.2.1.d.name),(vI p.2.1.d.rt),(vI p.2.1.d.dl),(vL p.2.2.1 p.2.1.d.xs.length p.2.2.2),(vI p.2.1.st),(vI p.2.1.ix),(vB p.2.1.cn),(vI p.2.1.tr),(vI p.2.1.bg),(vI p.2.1.er)]) from (k11.keep fun b r _ q=>x8 b r q).agg (j:=1) agg51 size51 (show 1 + 10≤11 by decide) (by kernel_rfl)),evF 1 8 (by rw [nextV_open cz14 ho] at s19; exact s19),evA 1 13 eb24 e26,evUw 1 14 size33 f27 e34,evC 2 3 0 agg94 (x37 _ _ T.row),evV 2 5 (vP b38 o39) (show indexAddrA Tryz.prog 94 (vL ea ms.length ec) (vI i)=some (vP b38 o39) from a42 und94 size105 hi),evV 2 7 (vI p.1) (show loadT Tryz.prog h33 3 (vP b38 o39)=some (vI p.1) from (k40.keep fun b r _ q=>x37 b r q).cell (j:=0) agg3 rfl),evT 2 9 0 size3 f35 e48,evLw 3 0 agg33 size33 f49,evUw 3 1 size33 f50 e53] .ret h52 [(4,(vP b1 0)),(9,(vP t 0)),(10,(vP t 0)),(11,(vP t 0)),(12,(vL ea ms.length ec)),(13,(vI i)),(14,(vP b9 o10)),(15,(vP b9 (o10 + 1))),(16,(vA #[(vS p.2.1.d.name),(vI p.2.1.d.rt),(vI p.2.1.d.dl),(vL p.2.2.1 p.2.1.d.xs.length p.2.2.2),(vI p.2.1.st),(vI p.2.1.ix),(vB p.2.1.cn),(vI p.2.1.tr),(vI p.2.1.bg),(vI p.2.1.er)])),(17,(vT #[(vA #[(vI 0),(vI p.2.1.ix),(vI (phS (p.2.1.st)))]),(vB true),(vI 0)])),(8,(vT #[(vA #[(vI 0),(vI p.2.1.ix),(vI (phS (p.2.1.st)))]),(vB true),(vI 0)])),(18,(vA #[(vI 0),(vI p.2.1.ix),(vI (phS (p.2.1.st)))])),(19,(vB true)),(20,(vI 0)),(5,(vP b23 0)),(6,(vB true)),(7,(vI 0)),(21,(vP t 0)),(22,(vP t 0)),(23,(vP t 0)),(24,(vL ea ms.length ec)),(25,(vI i)),(26,(vP b38 o39)),(27,(vP b38 o39)),(28,(vI p.1)),(29,(vP b23 0)),(30,(vA #[(vI p.1),(vI p.2.1.ix),(vI (phS (p.2.1.st)))]))] ?_
 exact end_ev [evLw 0 0 agg33 size33 f54] (vA #[(vI p.1),(vI p.2.1.ix),(vI (phS (p.2.1.st)))]) (hK _ _ (⟨rfl,x55⟩))
theorem LstAt.set {h:Heap} {ms:TabS} (k:LstAt h ms) {j:Nat} {q:Int} {y:SagA} (hy:OwnAt h 67 stepc y.1.d.xs (sagL y)):LstAt h (ms.set j (q,y)):=by
 intro p hp
 rcases List.mem_or_eq_of_mem_set hp with hp | rfl
 ·exact k p hp
 ·exact hy
theorem set_setK {α:Type} {m:List (Int × α)} (hn:(m.map (·.1)).Nodup) {j:Nat} {p:Int × α} (hp:m[j]?=some p) (y:α):m.set j (p.1,y)=setK m p.1 y:=by
 apply List.ext_getElem?
 intro i
 rw [List.getElem?_set]
 unfold setK
 rw [List.getElem?_map]
 have hl:=(List.getElem?_eq_some_iff.1 hp).1
 by_cases e:j=i
 ·subst e
  rw [if_pos rfl,if_pos hl,hp]; simp
 ·rw [if_neg e]
  cases q:m[i]? with
  | none=>rfl
  | some z =>
   have:¬ z.1=p.1:=fun w=>by
    have e1:(m.map (·.1))[i]?=some p.1:=by rw [List.getElem?_map,q]; simp [w]
    have e2:(m.map (·.1))[j]?=some p.1:=by rw [List.getElem?_map,hp]; rfl
    exact e ((List.getElem?_inj (List.getElem?_eq_some_iff.1 e1).1 hn).1 (e1.trans e2.symm)).symm
   simp [this]
theorem rf_set {T E:TypeId} {h h1:Heap} {O:Nat→Prop} {t:Nat} {ms:TabS} {a:Option Addr} {c:Nat} (k:RfRow T E h O t ms a c) (hn:(ms.map (·.1)).Nodup) {j:Nat} {p:Int × SagA} (hp:ms[j]?=some p) {y:SagA} (hr:h1[t]?=some (.cells #[.slice a ms.length c] T (0,0)))
  (he:OwnAt h1 E entc (ms.set j (p.1,y)) (.slice a ms.length c)) (hl:LstAt h1 ms) (hy:OwnAt h1 67 stepc y.1.d.xs (sagL y)) (hnew:∀ b,blk (sagL y) b→O b ∨ h.size≤b):∃ O',RfAt T E h1 O' t (setK (plT ms) p.1 y.1)∧∀ b,O' b→O b ∨ h.size≤b:=by
 have e:plT (ms.set j (p.1,y))=setK (plT ms) p.1 y.1:=by rw [set_setK hn hp]; unfold plT; exact setK_map (fun x:SagA=>x.1) _ y ms
 refine ⟨_,e ▸ rf_new (List.length_set ..) hr he (hl.set hy),fun b hb=>?_⟩
 rcases hb with rfl | hb | ⟨q,hq,hb⟩
 ·exact .inl ((k.foot _).2 (.inl rfl))
 ·exact .inl ((k.foot _).2 (.inr (.inl hb)))
 ·rcases List.mem_or_eq_of_mem_set hq with hq | rfl
  ·exact .inl ((k.foot _).2 (.inr (.inr ⟨q,hq,hb⟩)))
  ·exact hnew b hb
set_option maxRecDepth 10000 in
set_option maxHeartbeats 4000000 in
theorem rcancelT_ok_r (h:Heap) {O:Nat→Prop} {t:Nat} {ms:TabS} {ea:Option Addr} {ec:Nat} (T:RfRow 96 105 h O t ms ea ec) (ok:WfT (plT ms)) (n:Int):WCall Tryz.prog 20 #[(vP t 0),(vI (n))] h (fun v h1=>v=.int .i64 (canTE (plT ms) n)∧Chg O h h1∧∃ O',RfAt 96 105 h1 O' t (canTM (plT ms) n)∧∀ b,O' b→O b ∨ h.size≤b):=by
 have hpl:=plT_len ms
 have hfew:=ok.few
 have hT':RfAt 96 105 h O t (plT ms):=⟨ms,ea,ec,rfl,T⟩
 refine wcall_by fun K hK=>?_
 refine wcall_at { tmps:=#[(vP t 0),(vI n),vZ,vZ,vZ,vZ,vZ,vZ,vZ,vZ,vZ,vZ,vZ,vZ,vZ,vZ,vZ,vZ,vZ,vZ,vZ,vZ,vZ,vZ,vZ,vZ,vZ,vZ,vZ,vZ,vZ,vZ,vZ,vZ,vZ,vZ],defers:=[] } (by kernel_rfl) ?_
 obtain ⟨_,_,s1,⟨iv2,rfl,q3⟩,rfl⟩:=rfind_r h (T.keep fun b r _ q=>(Ext.refl h) b r q) ok (n)
 rcases q3 with ⟨f4,rfl⟩ | ⟨pe5,iv6,g7,k8,f9⟩
 ·refine wc_ev [evF 1 2 s1] .ret h [(4,(vI 0)),(8,(vP t 0)),(9,(vI n)),(10,(vI (-1))),(5,(vI (-1))),(11,(vI (-1))),(12,(vB true)),(4,(vI 5))] ?_
  have gg:=(getE_none (plT_no f4)).1
  have ee:canTE (plT ms) n=5:=by unfold canTE; rw [if_neg (by rw [gg]; decide)]
  exact end_ev [] (vI 5) (hK _ _ (⟨by rw [ee],Chg.ext (Ext.refl h),O,by unfold canTM; rw [ee,if_neg (by decide)]; exact hT'.keep fun b r _ q=>(Ext.refl h) b r q,fun b hb=>.inl hb⟩))
 ·obtain ⟨j10,e11⟩:∃ z:Nat,iv2=(z:Int):=⟨iv2.toNat,by omega⟩
  have g12:ms[j10]?=some pe5:=by rw [show j10=iv2.toNat by omega]; exact g7
  have l13:=(List.getElem?_eq_some_iff.1 g12).1
  obtain ⟨b14,o15,k16,q17,a18⟩:=(T.ents.slice entc_size).at entc_size g12
  obtain ⟨cz19,fz20⟩:=ok.ixS g12
  have dz21:=defB_of (chkS_zero cz19).1
  have iz22:=ok.ids _ (plT_mem (List.mem_of_getElem? g12))
  obtain ⟨v23,h24,s25,p26,p27,x28⟩:=rcancel_ok h pe5.2.1 _ _ (T.lists.ix g12) (by omega) (def_sizes (chkS_zero cz19).1).1 (def_sizes (chkS_zero cz19).1).2
  have x29:=(Ext.refl h).trans x28
  by_cases c30:((canE pe5.2.1):Int)=0
  ·obtain ⟨w31,c32,p33,o34,n35⟩:=p27 c30
   obtain ⟨s36,e37⟩:∃ q,q=canS pe5.2.1:=⟨_,rfl⟩
   have e38:s36.d=pe5.2.1.d:=by rw [e37]; rfl
   have e39:s36.d.xs.length=(pe5.2.1.d).xs.length:=by rw [e38]
   rw [← e37,← e38] at p33
   rw [← e38] at o34 n35
   have c40:chkS s36=0:=by rw [e37]; exact can_ok c30
   have z41:h.size≤h.size:=(Ext.refl h).size
   have n42:∀ zz,blk (Value.slice w31 (s36.d.xs.length) (c32)) zz→¬ (blk (Value.slice ea (ms.length) (ec))) zz:=fun zz hz ez=>by have:=n35 zz hz; have:=T.ents.blk_lt ez; omega
   have o43:∀ zz,blk (Value.slice w31 (s36.d.xs.length) (c32)) zz→h.size≤zz:=fun zz hz=>by have:=n35 zz hz; omega
   obtain ⟨b44,eb45⟩:∃ zq,zq=h24.size:=⟨_,rfl⟩
   obtain ⟨h46,e47⟩:∃ zq,zq=h24.push (.cells #[(vS .empty),(vI 0),(vI 0),(Value.slice none 0 0),(vI 0),(vI 0),(vB false),(vI 0),(vI 0),(vI 0)] 51 (0,0)):=⟨_,rfl⟩
   have f48:=push_new e47
   rw [← eb45] at f48
   have n49:∀ zz,(blk (Value.slice w31 (s36.d.xs.length) (c32))) zz→¬ zz=b44:=fun zz hz ez=>by have:=o34.blk_lt hz; omega
   have x50:Ext h24 h46:=by rw [e47]; exact Ext.push _ _
   have o51:h.size≤b44:=by have:=x29.size; omega
   have p52:=o34.keep fun b r _ q=>x50 b r q
   have x53:=x29.trans x50
   obtain ⟨h54,e55⟩:∃ zq,zq=h46.setIfInBounds b44 (.cells #[(vS s36.d.name),(vI (s36.d.rt)),(vI (s36.d.dl)),(Value.slice w31 (s36.d.xs.length) (c32)),(vI (s36.st)),(vI (s36.ix)),(vB s36.cn),(vI (s36.tr)),(vI (s36.bg)),(vI (s36.er))] 51 (0,0)):=⟨_,rfl⟩
   have f56:=set_same e55 f48
   have p57:=p52.keep fun b r hb q=>(Chg.set e55).same b r q (n49 b hb)
   have x58:=Ext.setNew x53 e55 o51
   obtain ⟨b59,o60,q61,a62,k63,u65⟩:=(T.ents.keep fun b r _ q=>x58 b r q).store entc_size g12
   obtain ⟨h66,e67,p68,c69,z70⟩:=u65 (j:=1) (y:=((pe5.1,(s36,w31,c32)):Int × SagA)) (u:=(Value.agg #[(vS s36.d.name),(vI (s36.d.rt)),(vI (s36.d.dl)),(Value.slice w31 (s36.d.xs.length) (c32)),(vI (s36.st)),(vI (s36.ix)),(vB s36.cn),(vI (s36.tr)),(vI (s36.bg)),(vI (s36.er))])) size51 rfl rfl (by decide) (by kernel_rfl)
   have c71:Chg (blk (Value.slice ea (ms.length) (ec))) h54 h66:=c69.weak fun q hq=>by subst hq; exact q61
   have z72:h.size≤h54.size:=(Chg.ext (O:=O) x58).size
   have x73:=(Chg.ext (O:=O) x58).then c71 (fun b hb=>.inl ((fun b hb=>(T.foot b).2 (.inr (.inl hb))) b hb))
   have f74:=c71.same _ _ (x58 _ _ T.row) (fun hb=>(T.ents.keep fun b r _ q=>x58 b r q).ne (x58 _ _ T.row) (by decide) hb rfl)
   have p75:=(T.lists.keep fun b r _ q=>x58 b r q).keep fun b r hb q=>c71.same b r q ((LstAt.offO (T.lists.keep fun b r _ q=>x58 b r q) (T.ents.keep fun b r _ q=>x58 b r q) (by decide)) b hb)
   have p76:=p57.keep fun b r hb q=>c71.same b r q (n42 b hb)
   refine wc_ev [evF 1 2 s1,evV 2 1 (vB false) (show binA Tryz.prog .lss 3 (vI iv2) (vI 0)=some (vB false) from cmp_lss (decide_eq_false (show ¬ ((iv2):Int) < 0 by omega))),evC 4 3 0 agg94 T.row,evV 4 5 (vP b14 o15) (show indexAddrA Tryz.prog 94 (vL ea ms.length ec) (vI iv2)=some (vP b14 o15) from a18 und94 size105 e11),evV 4 7 (vA #[(vS pe5.2.1.d.name),(vI pe5.2.1.d.rt),(vI pe5.2.1.d.dl),(vL pe5.2.2.1 pe5.2.1.d.xs.length pe5.2.2.2),(vI pe5.2.1.st),(vI pe5.2.1.ix),(vB pe5.2.1.cn),(vI pe5.2.1.tr),(vI pe5.2.1.bg),(vI pe5.2.1.er)]) (show loadT Tryz.prog h 51 (vP b14 (o15 + 1))=some (vA #[(vS pe5.2.1.d.name),(vI pe5.2.1.d.rt),(vI pe5.2.1.d.dl),(vL pe5.2.2.1 pe5.2.1.d.xs.length pe5.2.2.2),(vI pe5.2.1.st),(vI pe5.2.1.ix),(vB pe5.2.1.cn),(vI pe5.2.1.tr),(vI pe5.2.1.bg),(vI pe5.2.1.er)]) from (k16.keep fun b r _ q=>(Ext.refl h) b r q).agg (j:=1) agg51 size51 (show 1 + 10≤11 by decide) (by kernel_rfl)),evFe 4 8 p33 s25,evA 4 12 eb45 e47,evUw 4 13 size51 f48 e55,evC 6 3 0 agg94 (x58 _ _ T.row),evLw 6 5 agg51 size51 f56,evV 6 6 (vP b59 o60) (show indexAddrA Tryz.prog 94 (vL ea ms.length ec) (vI iv2)=some (vP b59 o60) from a62 und94 size105 e11),evH 6 8 undef h66 (show (storeT Tryz.prog h54 51 (vP b59 (o60 + 1)) (vA #[(vS s36.d.name),(vI s36.d.rt),(vI s36.d.dl),(vL w31 s36.d.xs.length c32),(vI s36.st),(vI s36.ix),(vB s36.cn),(vI s36.tr),(vI s36.bg),(vI s36.er)])=some h66∧(undef:Value)=undef) from ⟨e67,rfl⟩)] .ret h66 [(4,(vI 0)),(8,(vP t 0)),(9,(vI n)),(10,(vI iv2)),(5,(vI iv2)),(11,(vI iv2)),(12,(vB false)),(14,(vP t 0)),(15,(vP t 0)),(16,(vP t 0)),(17,(vL ea ms.length ec)),(18,(vI iv2)),(19,(vP b14 o15)),(20,(vP b14 (o15 + 1))),(21,(vA #[(vS pe5.2.1.d.name),(vI pe5.2.1.d.rt),(vI pe5.2.1.d.dl),(vL pe5.2.2.1 pe5.2.1.d.xs.length pe5.2.2.2),(vI pe5.2.1.st),(vI pe5.2.1.ix),(vB pe5.2.1.cn),(vI pe5.2.1.tr),(vI pe5.2.1.bg),(vI pe5.2.1.er)])),(22,(vT #[(vA #[(vS s36.d.name),(vI s36.d.rt),(vI s36.d.dl),(vL w31 s36.d.xs.length c32),(vI s36.st),(vI s36.ix),(vB s36.cn),(vI s36.tr),(vI s36.bg),(vI s36.er)]),(vI 0)])),(13,(vT #[(vA #[(vS s36.d.name),(vI s36.d.rt),(vI s36.d.dl),(vL w31 s36.d.xs.length c32),(vI s36.st),(vI s36.ix),(vB s36.cn),(vI s36.tr),(vI s36.bg),(vI s36.er)]),(vI 0)])),(23,(vA #[(vS s36.d.name),(vI s36.d.rt),(vI s36.d.dl),(vL w31 s36.d.xs.length c32),(vI s36.st),(vI s36.ix),(vB s36.cn),(vI s36.tr),(vI s36.bg),(vI s36.er)])),(24,(vI 0)),(6,(vP b44 0)),(7,(vI 0)),(25,(vI 0)),(26,(vB true)),(27,(vP t 0)),(28,(vP t 0)),(29,(vP t 0)),(30,(vL ea ms.length ec)),(31,(vI iv2)),(32,(vA #[(vS s36.d.name),(vI s36.d.rt),(vI s36.d.dl),(vL w31 s36.d.xs.length c32),(vI s36.st),(vI s36.ix),(vB s36.cn),(vI s36.tr),(vI s36.bg),(vI s36.er)])),(33,(vP b59 o60)),(34,(vP b59 (o60 + 1))),(35,(vI 0)),(4,(vI 0))] ?_
   obtain ⟨g1,g2⟩:=getE_some (plT_some f9)
   have ee:canTE (plT ms) n=canE pe5.2.1:=by unfold canTE; rw [if_pos g1,g2]
   obtain ⟨O9,t9,o9⟩:=rf_set T ok.apartS g12 (y:=(s36,w31,c32)) f74 p68 p75 p76 (fun b hb=>.inr (o43 b hb))
   exact end_ev [] (vI 0) (hK _ _ (⟨by rw [ee,c30],x73,O9,by unfold canTM; rw [ee,if_pos c30,g2]; rw [e37,k8] at t9; exact t9,o9⟩))
  ·obtain ⟨b77,eb78⟩:∃ zq,zq=h24.size:=⟨_,rfl⟩
   obtain ⟨h79,e80⟩:∃ zq,zq=h24.push (.cells #[(vS .empty),(vI 0),(vI 0),(Value.slice none 0 0),(vI 0),(vI 0),(vB false),(vI 0),(vI 0),(vI 0)] 51 (0,0)):=⟨_,rfl⟩
   have f81:=push_new e80
   rw [← eb78] at f81
   have x82:Ext h24 h79:=by rw [e80]; exact Ext.push _ _
   have o83:h.size≤b77:=by have:=x29.size; omega
   have x84:=x29.trans x82
   obtain ⟨h85,e86⟩:∃ zq,zq=h79.setIfInBounds b77 (.cells #[(vS .empty),(vI 0),(vI 0),(Value.slice none 0 0),(vI 0),(vI 0),(vB false),(vI 0),(vI 0),(vI 0)] 51 (0,0)):=⟨_,rfl⟩
   have x87:=Ext.setNew x84 e86 o83
   refine wc_ev [evF 1 2 s1,evV 2 1 (vB false) (show binA Tryz.prog .lss 3 (vI iv2) (vI 0)=some (vB false) from cmp_lss (decide_eq_false (show ¬ ((iv2):Int) < 0 by omega))),evC 4 3 0 agg94 T.row,evV 4 5 (vP b14 o15) (show indexAddrA Tryz.prog 94 (vL ea ms.length ec) (vI iv2)=some (vP b14 o15) from a18 und94 size105 e11),evV 4 7 (vA #[(vS pe5.2.1.d.name),(vI pe5.2.1.d.rt),(vI pe5.2.1.d.dl),(vL pe5.2.2.1 pe5.2.1.d.xs.length pe5.2.2.2),(vI pe5.2.1.st),(vI pe5.2.1.ix),(vB pe5.2.1.cn),(vI pe5.2.1.tr),(vI pe5.2.1.bg),(vI pe5.2.1.er)]) (show loadT Tryz.prog h 51 (vP b14 (o15 + 1))=some (vA #[(vS pe5.2.1.d.name),(vI pe5.2.1.d.rt),(vI pe5.2.1.d.dl),(vL pe5.2.2.1 pe5.2.1.d.xs.length pe5.2.2.2),(vI pe5.2.1.st),(vI pe5.2.1.ix),(vB pe5.2.1.cn),(vI pe5.2.1.tr),(vI pe5.2.1.bg),(vI pe5.2.1.er)]) from (k16.keep fun b r _ q=>(Ext.refl h) b r q).agg (j:=1) agg51 size51 (show 1 + 10≤11 by decide) (by kernel_rfl)),evFe 4 8 (p26 c30) s25,evA 4 12 eb78 e80,evUw 4 13 size51 f81 e86,eqF 5 1 34 c30] .ret h85 [(4,(vI 0)),(8,(vP t 0)),(9,(vI n)),(10,(vI iv2)),(5,(vI iv2)),(11,(vI iv2)),(12,(vB false)),(14,(vP t 0)),(15,(vP t 0)),(16,(vP t 0)),(17,(vL ea ms.length ec)),(18,(vI iv2)),(19,(vP b14 o15)),(20,(vP b14 (o15 + 1))),(21,(vA #[(vS pe5.2.1.d.name),(vI pe5.2.1.d.rt),(vI pe5.2.1.d.dl),(vL pe5.2.2.1 pe5.2.1.d.xs.length pe5.2.2.2),(vI pe5.2.1.st),(vI pe5.2.1.ix),(vB pe5.2.1.cn),(vI pe5.2.1.tr),(vI pe5.2.1.bg),(vI pe5.2.1.er)])),(22,(vT #[(vA #[(vS .empty),(vI 0),(vI 0),(vL none 0 0),(vI 0),(vI 0),(vB false),(vI 0),(vI 0),(vI 0)]),(vI (canE pe5.2.1))])),(13,(vT #[(vA #[(vS .empty),(vI 0),(vI 0),(vL none 0 0),(vI 0),(vI 0),(vB false),(vI 0),(vI 0),(vI 0)]),(vI (canE pe5.2.1))])),(23,(vA #[(vS .empty),(vI 0),(vI 0),(vL none 0 0),(vI 0),(vI 0),(vB false),(vI 0),(vI 0),(vI 0)])),(24,(vI (canE pe5.2.1))),(6,(vP b77 0)),(7,(vI (canE pe5.2.1))),(25,(vI (canE pe5.2.1))),(26,(vB false)),(35,(vI (canE pe5.2.1))),(4,(vI (canE pe5.2.1)))] ?_
   obtain ⟨g1,g2⟩:=getE_some (plT_some f9)
   have ee:canTE (plT ms) n=canE pe5.2.1:=by unfold canTE; rw [if_pos g1,g2]
   exact end_ev [] (vI (canE pe5.2.1)) (hK _ _ (⟨by rw [ee],Chg.ext x87,O,by unfold canTM; rw [ee,if_neg c30]; exact hT'.keep fun b r _ q=>x87 b r q,fun b hb=>.inl hb⟩))
theorem rcancelT_ok (h:Heap) {O:Nat→Prop} {t:Nat} {m:Tab} (hT:RfAt 96 105 h O t m) (ok:WfT m) (n:Int):WCall Tryz.prog 20 #[(vP t 0),(vI (n))] h (fun v h1=>v=.int .i64 (canTE m n)∧Chg O h h1∧∃ O',RfAt 96 105 h1 O' t (canTM m n)∧∀ b,O' b→O b ∨ h.size≤b):=by
 obtain ⟨ms,ea,ec,rfl,T⟩:=hT
 exact rcancelT_ok_r h T ok n
theorem size94:(Tryz.prog.info? 94).map (·.size)=some 1:=by kernel_rfl
theorem sizeb105:(Tryz.prog.info? 105).map (fun i=>(i.size,i.bytes))=some (11,112):=by kernel_rfl
theorem zero105:zeroA Tryz.prog 105=some (Value.agg #[(Value.int .i64 0),(Value.string .empty),(Value.int .i64 0),(Value.int .i64 0),(Value.slice none 0 0),(Value.int .i64 0),(Value.int .i64 0),(Value.bool false),(Value.int .i64 0),(Value.int .i64 0),(Value.int .i64 0)]):=by kernel_rfl
theorem insT_at {α:Type} {k:Int} {c:α}:∀ {m:List (Int × α)} {i:Nat},i≤m.length→(∀ (j:Nat) (p:Int × α),j < i→m[j]?=some p→p.1 < k)→(∀ p,m[i]?=some p→¬ p.1 < k)→insT k c m=m.take i++[(k,c)]++m.drop i
 | [],i,hi,_,_=>by
  have:i=0:=by simpa using hi
  subst this; rfl
 | p :: m,0,_,_,h2=>by
  unfold insT; rw [if_neg (h2 p rfl)]; rfl
 | p :: m,i + 1,hi,h1,h2=>by
  unfold insT; rw [if_pos (h1 0 p (by omega) rfl),insT_at (m:=m) (i:=i) (by simpa using hi) (fun j q hj hq=>h1 (j + 1) q (by omega) (by simpa using hq)) (fun q hq=>h2 q (by simpa using hq))]
  rfl
theorem rf_ins {T E:TypeId} {h h1:Heap} {O:Nat→Prop} {t:Nat} {ms:TabS} {a:Option Addr} {c:Nat} (k:RfRow T E h O t ms a c) {n:Int} {i:Nat} {y:SagA} {a2:Option Addr} {n2 c2:Nat} (hi:i≤ms.length) (hlt:∀ (j:Nat) (p:Int × SagA),j < i→ms[j]?=some p→p.1 < n)
  (hge:∀ p,ms[i]?=some p→¬ p.1 < n) {xs:TabS} (hx:xs=ms.take i++[(n,y)]++ms.drop i) (hn:xs.length=n2) (hr:h1[t]?=some (.cells #[.slice a2 n2 c2] T (0,0))) (he:OwnAt h1 E entc xs (.slice a2 n2 c2)) (hl:LstAt h1 ms)
  (hy:OwnAt h1 67 stepc y.1.d.xs (sagL y)) (hnew:∀ b,blk (sagL y) b→O b ∨ h.size≤b) (hnl:∀ b,blk (.slice a2 n2 c2) b→O b ∨ h.size≤b):∃ O',RfAt T E h1 O' t (insT n y.1 (plT ms))∧∀ b,O' b→O b ∨ h.size≤b:=by
 have hx2:xs=insT n y ms:=hx.trans (insT_at hi hlt hge).symm
 have e:plT xs=insT n y.1 (plT ms):=by rw [hx2]; unfold plT; exact insT_map (fun x:SagA=>x.1) n y ms
 have hl2:LstAt h1 xs:=fun p hp=>by
  rw [hx2] at hp
  rcases insT_mem.1 hp with rfl | hp
  ·exact hy
  ·exact hl p hp
 have base:=rf_new hn hr he hl2
 rw [e] at base
 refine ⟨_,base,fun b hb=>?_⟩
 rcases hb with rfl | hb | ⟨q,hq,hb⟩
 ·exact .inl ((k.foot _).2 (.inl rfl))
 ·exact hnl b hb
 ·rw [hx2] at hq
  rcases insT_mem.1 hq with rfl | hq
  ·exact hnew b hb
  ·exact .inl ((k.foot _).2 (.inr (.inr ⟨q,hq,hb⟩)))
set_option maxRecDepth 10000 in
set_option maxHeartbeats 4000000 in
theorem radd_ok_r (h:Heap) {O:Nat→Prop} {t:Nat} {ms:TabS} {ea:Option Addr} {ec:Nat} (T:RfRow 96 105 h O t ms ea ec) (ok:WfT (plT ms)) (n:Int) (s:SagaM) (sa:Option Addr) (cp:Nat) (hl:LAt h stepc 2 s.d.xs (.slice sa s.d.xs.length cp)) (hlen:s.d.xs.length≤1048576):WCall Tryz.prog 55 #[(vP t 0),(vI (n)),(Value.agg #[(vS s.d.name),(vI (s.d.rt)),(vI (s.d.dl)),(Value.slice sa (s.d.xs.length) (cp)),(vI (s.st)),(vI (s.ix)),(vB s.cn),(vI (s.tr)),(vI (s.bg)),(vI (s.er))])] h (fun v h1=>v=.int .i64 (addE (plT ms) n)∧Chg O h h1∧∃ O',RfAt 96 105 h1 O' t (addM (plT ms) n s)∧∀ b,O' b→O b ∨ h.size≤b):=by
 have hpl:=plT_len ms
 have hfew:=ok.few
 have hT':RfAt 96 105 h O t (plT ms):=⟨ms,ea,ec,rfl,T⟩
 refine wcall_by fun K hK=>?_
 refine wcall_at { tmps:=#[(vP t 0),(vI n),(vA #[(vS s.d.name),(vI s.d.rt),(vI s.d.dl),(vL sa s.d.xs.length cp),(vI s.st),(vI s.ix),(vB s.cn),(vI s.tr),(vI s.bg),(vI s.er)]),vZ,vZ,vZ,vZ,vZ,vZ,vZ,vZ,vZ,vZ,vZ,vZ,vZ,vZ,vZ,vZ,vZ,vZ,vZ,vZ,vZ,vZ,vZ,vZ,vZ,vZ,vZ,vZ,vZ,vZ,vZ,vZ,vZ,vZ,vZ,vZ,vZ,vZ,vZ,vZ,vZ,vZ,vZ,vZ,vZ,vZ,vZ,vZ,vZ,vZ,vZ,vZ,vZ,vZ,vZ,vZ,vZ,vZ,vZ,vZ,vZ,vZ,vZ],defers:=[] } (by kernel_rfl) ?_
 refine wc_seq' (subc (bodyOf Tryz.prog 55) [0]) (subc (bodyOf Tryz.prog 55) [1]) (by kernel_rfl) ?_
 obtain ⟨b1,eb2⟩:∃ zq,zq=h.size:=⟨_,rfl⟩
 obtain ⟨h3,e4⟩:∃ zq,zq=h.push (.cells #[(vS s.d.name),(vI (s.d.rt)),(vI (s.d.dl)),(Value.slice sa (s.d.xs.length) (cp)),(vI (s.st)),(vI (s.ix)),(vB s.cn),(vI (s.tr)),(vI (s.bg)),(vI (s.er))] 51 (0,0)):=⟨_,rfl⟩
 have f5:=push_new e4
 rw [← eb2] at f5
 have x6:Ext h h3:=by rw [e4]; exact Ext.push _ _
 have o7:h.size≤b1:=by have:=(Ext.refl h).size; omega
 have x8:=(Ext.refl h).trans x6
 refine wc_ev [evA 0 0 eb2 e4] .normal h3 [(5,(vP b1 0)),(6,(vI 0))] ?_
 refine wc_seq' (subc (bodyOf Tryz.prog 55) [1,0]) (subc (bodyOf Tryz.prog 55) [1,1]) (by kernel_rfl) ?_
 obtain ⟨_,_,s9,⟨iv10,rfl,q11⟩,rfl⟩:=rfind_r h3 (T.keep fun b r _ q=>x8 b r q) ok (n)
 rcases q11 with ⟨f12,rfl⟩ | ⟨pe13,iv14,g15,k16,f17⟩
 ·refine wc_ev [evF 1 2 s9] .normal h3 [(9,(vP t 0)),(10,(vI n)),(11,(vI (-1))),(12,(vB false))] ?_
  refine wc_seq' (subc (bodyOf Tryz.prog 55) [1,1,0]) (subc (bodyOf Tryz.prog 55) [1,1,1]) (by kernel_rfl) ?_
  by_cases c18:(64:Int)≤((ms.length:Nat))
  ·refine wc_ev [evC 3 3 0 agg94 (x8 _ _ T.row),geT 3 5 3 c18] .ret h3 [(13,(vP t 0)),(14,(vP t 0)),(15,(vP t 0)),(16,(vL ea ms.length ec)),(17,(vI ((ms.length:Nat)))),(18,(vB true)),(6,(vI 4))] ?_
   have ee:addE (plT ms) n=4:=by rw [addE_none (plT_no f12),if_pos (by omega)]
   exact end_ev [] (vI 4) (hK _ _ (⟨by rw [ee],Chg.ext x8,O,by unfold addM; rw [ee,if_neg (by decide)]; exact hT'.keep fun b r _ q=>x8 b r q,fun b hb=>.inl hb⟩))
  ·refine wc_ev [evC 3 3 0 agg94 (x8 _ _ T.row),geF 3 5 3 c18] .normal h3 [(13,(vP t 0)),(14,(vP t 0)),(15,(vP t 0)),(16,(vL ea ms.length ec)),(17,(vI ((ms.length:Nat)))),(18,(vB false))] ?_
   refine wc_seq' (subc (bodyOf Tryz.prog 55) [1,1,1,0]) (subc (bodyOf Tryz.prog 55) [1,1,1,1]) (by kernel_rfl) ?_
   refine wc_ev [] .normal h3 [(7,(vI 0))] ?_
   refine wc_seq' (subc (bodyOf Tryz.prog 55) [1,1,1,1,0]) (subc (bodyOf Tryz.prog 55) [1,1,1,1,1]) (by kernel_rfl) ?_
   refine wc_block' 0 (subc (bodyOf Tryz.prog 55) [1,1,1,1,0,0]) (by kernel_rfl) ?_
   refine wc_loop' (subc (bodyOf Tryz.prog 55) [1,1,1,1,0,0,0]) (by kernel_rfl) (fun n' a' h'=>∃ (k:Int) (g0:Nat→Value),a'={ tmps:=#[(vP t 0),(vI n),(vA #[(vS s.d.name),(vI s.d.rt),(vI s.d.dl),(vL sa s.d.xs.length cp),(vI s.st),(vI s.ix),(vB s.cn),(vI s.tr),(vI s.bg),(vI s.er)]),vZ,vZ,(vP b1 0),(vI 0),(vI k),vZ,(vP t 0),(vI n),(vI (-1)),(vB false),(vP t 0),(vP t 0),(vP t 0),(vL ea ms.length ec),(vI ((ms.length:Nat))),(vB false),(g0 19),(g0 20),(g0 21),(g0 22),(g0 23),(g0 24),(g0 25),(g0 26),(g0 27),(g0 28),(g0 29),(g0 30),(g0 31),(g0 32),(g0 33),(g0 34),(g0 35),(g0 36),(g0 37),(g0 38),(g0 39),vZ,vZ,vZ,vZ,vZ,vZ,vZ,vZ,vZ,vZ,vZ,vZ,vZ,vZ,vZ,vZ,vZ,vZ,vZ,vZ,vZ,vZ,vZ,vZ,vZ,vZ],defers:=[] }∧Ext h h'∧n'=ms.length - k.toNat∧h'[b1]?=some (.cells #[(vS s.d.name),(vI s.d.rt),(vI s.d.dl),(vL sa s.d.xs.length cp),(vI s.st),(vI s.ix),(vB s.cn),(vI s.tr),(vI s.bg),(vI s.er)] 51 (0,0))∧(0≤k∧k≤(ms.length:Nat))∧(∀ (j:Nat) (p:Int × SagA),j < k.toNat→ms[j]?=some p→p.1 < n)) ?_ (ms.length - (0:Int).toNat) ⟨0,(fun i=>([vU,vU,vU,vU,vU,vU,vU,vU,vU,vU,vU,vU,vU,vU,vU,vU,vU,vU,vU,vZ,vZ,vZ,vZ,vZ,vZ,vZ,vZ,vZ,vZ,vZ,vZ,vZ,vZ,vZ,vZ,vZ,vZ,vZ,vZ,vZ]:List Value).getD i undef),by as_aux_lemma=>kernel_rfl,x8,rfl,f5,by omega,fun j p hj _=>absurd hj (by omega)⟩
   rintro n' _ h19 ⟨k,g0,rfl,x20,m21,f22,i23,i24⟩
   by_cases c25:((k):Int) < ((ms.length:Nat))
   ·obtain ⟨i26,v27,e28,l29,g30⟩:=list_at ms (e:=(k)) (by omega) (by first | omega | (simp only [List.length_set,List.length_append,List.length_singleton]; omega))
    obtain ⟨b31,o32,k33,q34,a35⟩:=(T.ents.slice entc_size).at entc_size g30
    obtain ⟨cz36,fz37⟩:=ok.ixS g30
    have dz38:=defB_of (chkS_zero cz36).1
    have iz39:=ok.ids _ (plT_mem (List.mem_of_getElem? g30))
    by_cases c40:((v27.1):Int) < (n)
    ·refine wc_ev [evC 6 4 0 agg94 (x20 _ _ T.row),ltT 6 6 3 c25,evC 6 11 0 agg94 (x20 _ _ T.row),evV 6 13 (vP b31 o32) (show indexAddrA Tryz.prog 94 (vL ea ms.length ec) (vI k)=some (vP b31 o32) from a35 und94 size105 e28),evV 6 15 (vI v27.1) (show loadT Tryz.prog h19 3 (vP b31 o32)=some (vI v27.1) from (k33.keep fun b r _ q=>x20 b r q).cell (j:=0) agg3 rfl),ltT 6 17 3 c40,evV 7 1 (vI ((k) + 1)) (show binA Tryz.prog .add 3 (vI k) (vI 1)=some (vI ((k) + 1)) from add_i64 (by omega) (by omega))] .normal h19 [(19,(vI k)),(20,(vP t 0)),(21,(vP t 0)),(22,(vP t 0)),(23,(vL ea ms.length ec)),(24,(vI ((ms.length:Nat)))),(25,(vB true)),(26,(vB true)),(27,(vP t 0)),(28,(vP t 0)),(29,(vP t 0)),(30,(vL ea ms.length ec)),(31,(vI k)),(32,(vP b31 o32)),(33,(vP b31 o32)),(34,(vI v27.1)),(35,(vI n)),(36,(vB true)),(37,(vB true)),(38,(vI k)),(39,(vI ((k) + 1))),(7,(vI ((k) + 1)))] ?_
     exact ⟨ms.length - (k + 1).toNat,by omega,⟨k + 1,(fun i=>([vU,vU,vU,vU,vU,vU,vU,vU,vU,vU,vU,vU,vU,vU,vU,vU,vU,vU,vU,(vI k),(vP t 0),(vP t 0),(vP t 0),(vL ea ms.length ec),(vI ((ms.length:Nat))),(vB true),(vB true),(vP t 0),(vP t 0),(vP t 0),(vL ea ms.length ec),(vI k),(vP b31 o32),(vP b31 o32),(vI v27.1),(vI n),(vB true),(vB true),(vI k),(vI ((k) + 1))]:List Value).getD i undef),by as_aux_lemma=>kernel_rfl,x20,rfl,f22,by omega,fun j' p hj w=>by
     rcases Nat.lt_or_eq_of_le (Nat.le_of_lt_succ (show j' < k.toNat + 1 by omega)) with g | g
     ·exact i24 j' p g w
     ·rw [show j'=i26 by omega] at w; rw [w] at g30; cases g30; exact c40⟩⟩
    ·refine wc_ev [evC 6 4 0 agg94 (x20 _ _ T.row),ltT 6 6 3 c25,evC 6 11 0 agg94 (x20 _ _ T.row),evV 6 13 (vP b31 o32) (show indexAddrA Tryz.prog 94 (vL ea ms.length ec) (vI k)=some (vP b31 o32) from a35 und94 size105 e28),evV 6 15 (vI v27.1) (show loadT Tryz.prog h19 3 (vP b31 o32)=some (vI v27.1) from (k33.keep fun b r _ q=>x20 b r q).cell (j:=0) agg3 rfl),ltF 6 17 3 c40] (.exit 0) h19 [(19,(vI k)),(20,(vP t 0)),(21,(vP t 0)),(22,(vP t 0)),(23,(vL ea ms.length ec)),(24,(vI ((ms.length:Nat)))),(25,(vB true)),(26,(vB true)),(27,(vP t 0)),(28,(vP t 0)),(29,(vP t 0)),(30,(vL ea ms.length ec)),(31,(vI k)),(32,(vP b31 o32)),(33,(vP b31 o32)),(34,(vI v27.1)),(35,(vI n)),(36,(vB false)),(37,(vB false))] ?_
     obtain ⟨_,p41⟩:=own_pre (t:=94) entc_size und94 size105 (by decide) T.ents (kd:=.i64) (n:=((k):Int)) (by omega) (by omega)
     have e42:=List.length_take (i:=((k):Int).toNat) (l:=ms)
     have k43:OwnAt h19 105 entc ([]:List (Int × SagA)) (Value.slice none 0 0):=.inl ⟨rfl,rfl⟩
     obtain ⟨w44,h45,e46,p47,c48,n49⟩:=own_append_many und94 sizeb105 zero105 rfl (by decide) entc_size entc_one (xs:=([]:List (Int × SagA))) (ys:=(ms.take ((k):Int).toNat)) k43 (p41.keep fun b r _ q=>x20 b r q) (by simp only [List.length_append,List.length_take,List.length_drop,List.length_singleton,List.length_nil] at *; omega) (by unfold maxLen; simp only [List.length_append,List.length_take,List.length_drop,List.length_singleton,List.length_nil] at *; omega)
     rw [List.nil_append] at p47
     obtain ⟨a50,c51,rfl⟩:=(p47.slice entc_size).len
     have z52:h.size≤h19.size:=x20.size
     have x53:Ext h _:=(Chg.then (O:=fun _=>False) (Chg.ext x20) c48 (fun b hb=>.inr ((fun _ hb=>hb.elim) b hb))).toExt'
     have f54:=c48.same _ _ f22 (fun hb=>(nil_ne b1) _ hb rfl)
     have z55:h.size≤h19.size:=x20.size
     have o56:∀ zz,(blk (Value.slice a50 ((ms.take ((k):Int).toNat).length) (c51))) zz→h.size≤zz:=fun zz hz=>by rcases n49 zz hz with g | g; (exact (fun _ hb=>hb.elim) zz g); omega
     obtain ⟨_,h57,s58,w59,c60,rfl,o61,x62,b63⟩:=rcopys_ok h45 s _ _ (hl.keep fun b r _ q=>x53 b r q) (by omega)
     have p64:=p47.keep fun b r _ q=>x62 b r q
     have x65:=x53.trans x62
     have z66:h.size≤h45.size:=x53.size
     have n67:∀ zz,blk (Value.slice w59 (s.d.xs.length) (c60)) zz→¬ zz=t:=fun zz hz ez=>by have:=b63 zz hz; have:=row_lt (x53 _ _ T.row); omega
     have n68:∀ zz,blk (Value.slice w59 (s.d.xs.length) (c60)) zz→¬ (blk (Value.slice a50 ((ms.take ((k):Int).toNat).length) (c51))) zz:=fun zz hz ez=>by have:=b63 zz hz; have:=p47.blk_lt ez; omega
     have o69:∀ zz,blk (Value.slice w59 (s.d.xs.length) (c60)) zz→h.size≤zz:=fun zz hz=>by have:=b63 zz hz; omega
     obtain ⟨b70,eb71⟩:∃ zq,zq=h57.size:=⟨_,rfl⟩
     obtain ⟨h72,e73⟩:∃ zq,zq=h57.push (.cells #[(vI (n)),(vS s.d.name),(vI (s.d.rt)),(vI (s.d.dl)),(Value.slice w59 (s.d.xs.length) (c60)),(vI (s.st)),(vI (s.ix)),(vB s.cn),(vI (s.tr)),(vI (s.bg)),(vI (s.er))] 105 (0,0)):=⟨_,rfl⟩
     have f74:=push_new e73
     rw [← eb71] at f74
     have x75:Ext h57 h72:=by rw [e73]; exact Ext.push _ _
     have o76:h.size≤b70:=by have:=x65.size; omega
     have p77:=p64.keep fun b r _ q=>x75 b r q
     have p78:=o61.keep fun b r _ q=>x75 b r q
     have x79:=x65.trans x75
     obtain ⟨w80,h81,e82,p83,c84,n85,z86⟩:=own_append und94 sizeb105 zero105 rfl (by decide) entc_size (x:=((n,(s,w59,c60)):Int × SagA)) p77 f74 rfl (by omega) (by unfold maxLen; omega)
     obtain ⟨a87,c88,rfl⟩:=(p83.slice entc_size).len
     have z89:h.size≤h72.size:=x79.size
     have x90:Ext h _:=(Chg.then (O:=fun _=>False) (Chg.ext x79) c84 (fun b hb=>.inr (o56 b hb))).toExt'
     have p91:=p78.keep fun b r hb q=>c84.same b r q (n68 b hb)
     have n92:∀ zz,blk (Value.slice a87 (((ms.take ((k):Int).toNat)++[((n,(s,w59,c60)):Int × SagA)]).length) (c88)) zz→¬ zz=t:=fun zz hz ez=>by have:=n85 zz hz; have:=row_lt (x79 _ _ T.row); omega
     have n93:∀ zz,blk (Value.slice a87 (((ms.take ((k):Int).toNat)++[((n,(s,w59,c60)):Int × SagA)]).length) (c88)) zz→¬ (blk (Value.slice w59 (s.d.xs.length) (c60))) zz:=fun zz hz ez=>by have:=n85 zz hz; have:=p78.blk_lt ez; omega
     have o94:∀ zz,blk (Value.slice a87 (((ms.take ((k):Int).toNat)++[((n,(s,w59,c60)):Int × SagA)]).length) (c88)) zz→h.size≤zz:=fun zz hz=>by have:=n85 zz hz; have:=z89; omega
     obtain ⟨_,p95⟩:=own_suf (t:=94) entc_size und94 size105 (by decide) T.ents (kd:=.i64) (n:=((k):Int)) (by omega) (by omega)
     have e96:=List.length_drop (i:=((k):Int).toNat) (l:=ms)
     obtain ⟨w97,h98,e99,p100,c101,n102⟩:=own_append_many und94 sizeb105 zero105 rfl (by decide) entc_size entc_one (xs:=((ms.take ((k):Int).toNat)++[((n,(s,w59,c60)):Int × SagA)])) (ys:=(ms.drop ((k):Int).toNat)) p83 (p95.keep fun b r _ q=>x90 b r q) (by simp only [List.length_append,List.length_take,List.length_drop,List.length_singleton,List.length_nil] at *; omega) (by unfold maxLen; simp only [List.length_append,List.length_take,List.length_drop,List.length_singleton,List.length_nil] at *; omega)
     obtain ⟨a103,c104,rfl⟩:=(p100.slice entc_size).len
     have z105:h.size≤h81.size:=x90.size
     have x106:Ext h _:=(Chg.then (O:=fun _=>False) (Chg.ext x90) c101 (fun b hb=>.inr (o94 b hb))).toExt'
     have p107:=p91.keep fun b r hb q=>c101.same b r q ((fun b hb hb2=>n93 b hb2 hb) b hb)
     have z108:h.size≤h81.size:=x90.size
     have n109:∀ zz,(blk (Value.slice a103 ((((ms.take ((k):Int).toNat)++[((n,(s,w59,c60)):Int × SagA)])++(ms.drop ((k):Int).toNat)).length) (c104))) zz→¬ zz=t:=fun zz hz ez=>by rcases n102 zz hz with g | g; (exact n92 _ g ez); have:=row_lt (x90 _ _ T.row); omega
     have o110:∀ zz,(blk (Value.slice a103 ((((ms.take ((k):Int).toNat)++[((n,(s,w59,c60)):Int × SagA)])++(ms.drop ((k):Int).toNat)).length) (c104))) zz→h.size≤zz:=fun zz hz=>by rcases n102 zz hz with g | g; (exact o94 zz g); omega
     obtain ⟨h111,e112⟩:∃ zq,zq=h98.setIfInBounds t (.cells #[(Value.slice a103 ((((ms.take ((k):Int).toNat)++[((n,(s,w59,c60)):Int × SagA)])++(ms.drop ((k):Int).toNat)).length) (c104))] 96 (0,0)):=⟨_,rfl⟩
     have f113:=set_same e112 (x106 _ _ T.row)
     have p114:=(T.lists.keep fun b r _ q=>x106 b r q).keep fun b r hb q=>(Chg.set e112).same b r q ((LstAt.neO (T.lists.keep fun b r _ q=>x106 b r q) (x106 _ _ T.row) (by decide)) b hb)
     have p115:=p107.keep fun b r hb q=>(Chg.set e112).same b r q (n67 b hb)
     have p116:=p100.keep fun b r hb q=>(Chg.set e112).same b r q (n109 b hb)
     have x117:=(Chg.ext (O:=O) x106).then (Chg.set e112) (fun b hb=>by subst hb; exact (.inl ((T.foot _).2 (.inl rfl))))
     refine wc_ev [evC 9 4 0 agg94 (x20 _ _ T.row),evV 9 6 (Value.slice ea ((ms.take ((k):Int).toNat).length) (ec)) (show sliceA Tryz.prog h19 94 (vL ea ms.length ec) none (some (vI k)) none=some (Value.slice ea ((ms.take ((k):Int).toNat).length) (ec)) from (own_pre entc_size und94 size105 (by decide) (T.ents.keep fun b r _ q=>x20 b r q) (kd:=.i64) (n:=((k):Int)) (by omega) (by omega)).1),evP 9 7 e46,evLw 10 2 agg51 size51 f54,evF 10 3 s58,evS 10 5 1 eb71 e73,evP 10 6 e82,evC 11 5 0 agg94 (x90 _ _ T.row),evV 11 7 (Value.slice (suf ea (((k):Int).toNat * 11)) ((ms.drop ((k):Int).toNat).length) ((ec - ((k):Int).toNat))) (show sliceA Tryz.prog h81 94 (vL ea ms.length ec) (some (vI k)) none none=some (Value.slice (suf ea (((k):Int).toNat * 11)) ((ms.drop ((k):Int).toNat).length) ((ec - ((k):Int).toNat))) from (own_suf entc_size und94 size105 (by decide) (T.ents.keep fun b r _ q=>x90 b r q) (kd:=.i64) (n:=((k):Int)) (by omega) (by omega)).1),evP 11 8 e99,evH 11 11 undef h111 (show (storeT Tryz.prog h98 94 (vP t 0) (Value.slice a103 ((((ms.take ((k):Int).toNat)++[((n,(s,w59,c60)):Int × SagA)])++(ms.drop ((k):Int).toNat)).length) (c104))=some h111∧(undef:Value)=undef) from ⟨by rw [e112]; exact store_cells size94 rfl (x106 _ _ T.row) (by decide) (by simp) rfl (by kernel_rfl),rfl⟩)] .ret h111 [(8,(vL none 0 0)),(40,(vL none 0 0)),(41,(vP t 0)),(42,(vP t 0)),(43,(vP t 0)),(44,(vL ea ms.length ec)),(45,(vI k)),(46,(Value.slice ea ((ms.take ((k):Int).toNat).length) (ec))),(47,(Value.slice a50 ((ms.take ((k):Int).toNat).length) (c51))),(8,(Value.slice a50 ((ms.take ((k):Int).toNat).length) (c51))),(48,(Value.slice a50 ((ms.take ((k):Int).toNat).length) (c51))),(49,(vI n)),(50,(vA #[(vS s.d.name),(vI s.d.rt),(vI s.d.dl),(vL sa s.d.xs.length cp),(vI s.st),(vI s.ix),(vB s.cn),(vI s.tr),(vI s.bg),(vI s.er)])),(51,(vA #[(vS s.d.name),(vI s.d.rt),(vI s.d.dl),(vL w59 s.d.xs.length c60),(vI s.st),(vI s.ix),(vB s.cn),(vI s.tr),(vI s.bg),(vI s.er)])),(52,(vA #[(vI n),(vS s.d.name),(vI s.d.rt),(vI s.d.dl),(vL w59 s.d.xs.length c60),(vI s.st),(vI s.ix),(vB s.cn),(vI s.tr),(vI s.bg),(vI s.er)])),(53,(vL (some ⟨b70,0,none⟩) 1 1)),(54,(Value.slice a87 (((ms.take ((k):Int).toNat)++[((n,(s,w59,c60)):Int × SagA)]).length) (c88))),(8,(Value.slice a87 (((ms.take ((k):Int).toNat)++[((n,(s,w59,c60)):Int × SagA)]).length) (c88))),(55,(vP t 0)),(56,(Value.slice a87 (((ms.take ((k):Int).toNat)++[((n,(s,w59,c60)):Int × SagA)]).length) (c88))),(57,(vP t 0)),(58,(vP t 0)),(59,(vP t 0)),(60,(vL ea ms.length ec)),(61,(vI k)),(62,(Value.slice (suf ea (((k):Int).toNat * 11)) ((ms.drop ((k):Int).toNat).length) ((ec - ((k):Int).toNat)))),(63,(Value.slice a103 ((((ms.take ((k):Int).toNat)++[((n,(s,w59,c60)):Int × SagA)])++(ms.drop ((k):Int).toNat)).length) (c104))),(64,(vP t 0)),(65,(vP t 0)),(6,(vI 0))] ?_
     have ee:addE (plT ms) n=0:=by rw [addE_none (plT_no f12),if_neg (by omega)]
     obtain ⟨O9,t9,o9⟩:=rf_ins T (n:=n) (i:=k.toNat) (y:=(s,w59,c60)) (by omega) i24 (fun p hp=>by rw [show k.toNat=i26 by omega,g30] at hp; cases hp; exact c40) (by rfl) (by rfl) f113 p116 p114 p115 (fun b hb=>.inr (o69 b hb)) (fun b hb=>.inr (o110 b hb))
     exact end_ev [] (vI 0) (hK _ _ (⟨by rw [ee],x117,O9,by unfold addM; rw [ee,if_pos rfl]; exact t9,o9⟩))
   ·refine wc_ev [evC 6 4 0 agg94 (x20 _ _ T.row),ltF 6 6 3 c25] (.exit 0) h19 [(19,(vI k)),(20,(vP t 0)),(21,(vP t 0)),(22,(vP t 0)),(23,(vL ea ms.length ec)),(24,(vI ((ms.length:Nat)))),(25,(vB false)),(26,(vB false)),(27,vZ),(28,vZ),(29,vZ),(30,vZ),(31,vZ),(32,vZ),(33,vZ),(34,vZ),(35,vZ),(36,vZ),(37,(vB false))] ?_
    obtain ⟨_,p118⟩:=own_pre (t:=94) entc_size und94 size105 (by decide) T.ents (kd:=.i64) (n:=((k):Int)) (by omega) (by omega)
    have e119:=List.length_take (i:=((k):Int).toNat) (l:=ms)
    have k120:OwnAt h19 105 entc ([]:List (Int × SagA)) (Value.slice none 0 0):=.inl ⟨rfl,rfl⟩
    obtain ⟨w121,h122,e123,p124,c125,n126⟩:=own_append_many und94 sizeb105 zero105 rfl (by decide) entc_size entc_one (xs:=([]:List (Int × SagA))) (ys:=(ms.take ((k):Int).toNat)) k120 (p118.keep fun b r _ q=>x20 b r q) (by simp only [List.length_append,List.length_take,List.length_drop,List.length_singleton,List.length_nil] at *; omega) (by unfold maxLen; simp only [List.length_append,List.length_take,List.length_drop,List.length_singleton,List.length_nil] at *; omega)
    rw [List.nil_append] at p124
    obtain ⟨a127,c128,rfl⟩:=(p124.slice entc_size).len
    have z129:h.size≤h19.size:=x20.size
    have x130:Ext h _:=(Chg.then (O:=fun _=>False) (Chg.ext x20) c125 (fun b hb=>.inr ((fun _ hb=>hb.elim) b hb))).toExt'
    have f131:=c125.same _ _ f22 (fun hb=>(nil_ne b1) _ hb rfl)
    have z132:h.size≤h19.size:=x20.size
    have o133:∀ zz,(blk (Value.slice a127 ((ms.take ((k):Int).toNat).length) (c128))) zz→h.size≤zz:=fun zz hz=>by rcases n126 zz hz with g | g; (exact (fun _ hb=>hb.elim) zz g); omega
    obtain ⟨_,h134,s135,w136,c137,rfl,o138,x139,b140⟩:=rcopys_ok h122 s _ _ (hl.keep fun b r _ q=>x130 b r q) (by omega)
    have p141:=p124.keep fun b r _ q=>x139 b r q
    have x142:=x130.trans x139
    have z143:h.size≤h122.size:=x130.size
    have n144:∀ zz,blk (Value.slice w136 (s.d.xs.length) (c137)) zz→¬ zz=t:=fun zz hz ez=>by have:=b140 zz hz; have:=row_lt (x130 _ _ T.row); omega
    have n145:∀ zz,blk (Value.slice w136 (s.d.xs.length) (c137)) zz→¬ (blk (Value.slice a127 ((ms.take ((k):Int).toNat).length) (c128))) zz:=fun zz hz ez=>by have:=b140 zz hz; have:=p124.blk_lt ez; omega
    have o146:∀ zz,blk (Value.slice w136 (s.d.xs.length) (c137)) zz→h.size≤zz:=fun zz hz=>by have:=b140 zz hz; omega
    obtain ⟨b147,eb148⟩:∃ zq,zq=h134.size:=⟨_,rfl⟩
    obtain ⟨h149,e150⟩:∃ zq,zq=h134.push (.cells #[(vI (n)),(vS s.d.name),(vI (s.d.rt)),(vI (s.d.dl)),(Value.slice w136 (s.d.xs.length) (c137)),(vI (s.st)),(vI (s.ix)),(vB s.cn),(vI (s.tr)),(vI (s.bg)),(vI (s.er))] 105 (0,0)):=⟨_,rfl⟩
    have f151:=push_new e150
    rw [← eb148] at f151
    have x152:Ext h134 h149:=by rw [e150]; exact Ext.push _ _
    have o153:h.size≤b147:=by have:=x142.size; omega
    have p154:=p141.keep fun b r _ q=>x152 b r q
    have p155:=o138.keep fun b r _ q=>x152 b r q
    have x156:=x142.trans x152
    obtain ⟨w157,h158,e159,p160,c161,n162,z163⟩:=own_append und94 sizeb105 zero105 rfl (by decide) entc_size (x:=((n,(s,w136,c137)):Int × SagA)) p154 f151 rfl (by omega) (by unfold maxLen; omega)
    obtain ⟨a164,c165,rfl⟩:=(p160.slice entc_size).len
    have z166:h.size≤h149.size:=x156.size
    have x167:Ext h _:=(Chg.then (O:=fun _=>False) (Chg.ext x156) c161 (fun b hb=>.inr (o133 b hb))).toExt'
    have p168:=p155.keep fun b r hb q=>c161.same b r q (n145 b hb)
    have n169:∀ zz,blk (Value.slice a164 (((ms.take ((k):Int).toNat)++[((n,(s,w136,c137)):Int × SagA)]).length) (c165)) zz→¬ zz=t:=fun zz hz ez=>by have:=n162 zz hz; have:=row_lt (x156 _ _ T.row); omega
    have n170:∀ zz,blk (Value.slice a164 (((ms.take ((k):Int).toNat)++[((n,(s,w136,c137)):Int × SagA)]).length) (c165)) zz→¬ (blk (Value.slice w136 (s.d.xs.length) (c137))) zz:=fun zz hz ez=>by have:=n162 zz hz; have:=p155.blk_lt ez; omega
    have o171:∀ zz,blk (Value.slice a164 (((ms.take ((k):Int).toNat)++[((n,(s,w136,c137)):Int × SagA)]).length) (c165)) zz→h.size≤zz:=fun zz hz=>by have:=n162 zz hz; have:=z166; omega
    obtain ⟨_,p172⟩:=own_suf (t:=94) entc_size und94 size105 (by decide) T.ents (kd:=.i64) (n:=((k):Int)) (by omega) (by omega)
    have e173:=List.length_drop (i:=((k):Int).toNat) (l:=ms)
    obtain ⟨w174,h175,e176,p177,c178,n179⟩:=own_append_many und94 sizeb105 zero105 rfl (by decide) entc_size entc_one (xs:=((ms.take ((k):Int).toNat)++[((n,(s,w136,c137)):Int × SagA)])) (ys:=(ms.drop ((k):Int).toNat)) p160 (p172.keep fun b r _ q=>x167 b r q) (by simp only [List.length_append,List.length_take,List.length_drop,List.length_singleton,List.length_nil] at *; omega) (by unfold maxLen; simp only [List.length_append,List.length_take,List.length_drop,List.length_singleton,List.length_nil] at *; omega)
    obtain ⟨a180,c181,rfl⟩:=(p177.slice entc_size).len
    have z182:h.size≤h158.size:=x167.size
    have x183:Ext h _:=(Chg.then (O:=fun _=>False) (Chg.ext x167) c178 (fun b hb=>.inr (o171 b hb))).toExt'
    have p184:=p168.keep fun b r hb q=>c178.same b r q ((fun b hb hb2=>n170 b hb2 hb) b hb)
    have z185:h.size≤h158.size:=x167.size
    have n186:∀ zz,(blk (Value.slice a180 ((((ms.take ((k):Int).toNat)++[((n,(s,w136,c137)):Int × SagA)])++(ms.drop ((k):Int).toNat)).length) (c181))) zz→¬ zz=t:=fun zz hz ez=>by rcases n179 zz hz with g | g; (exact n169 _ g ez); have:=row_lt (x167 _ _ T.row); omega
    have o187:∀ zz,(blk (Value.slice a180 ((((ms.take ((k):Int).toNat)++[((n,(s,w136,c137)):Int × SagA)])++(ms.drop ((k):Int).toNat)).length) (c181))) zz→h.size≤zz:=fun zz hz=>by rcases n179 zz hz with g | g; (exact o171 zz g); omega
    obtain ⟨h188,e189⟩:∃ zq,zq=h175.setIfInBounds t (.cells #[(Value.slice a180 ((((ms.take ((k):Int).toNat)++[((n,(s,w136,c137)):Int × SagA)])++(ms.drop ((k):Int).toNat)).length) (c181))] 96 (0,0)):=⟨_,rfl⟩
    have f190:=set_same e189 (x183 _ _ T.row)
    have p191:=(T.lists.keep fun b r _ q=>x183 b r q).keep fun b r hb q=>(Chg.set e189).same b r q ((LstAt.neO (T.lists.keep fun b r _ q=>x183 b r q) (x183 _ _ T.row) (by decide)) b hb)
    have p192:=p184.keep fun b r hb q=>(Chg.set e189).same b r q (n144 b hb)
    have p193:=p177.keep fun b r hb q=>(Chg.set e189).same b r q (n186 b hb)
    have x194:=(Chg.ext (O:=O) x183).then (Chg.set e189) (fun b hb=>by subst hb; exact (.inl ((T.foot _).2 (.inl rfl))))
    refine wc_ev [evC 9 4 0 agg94 (x20 _ _ T.row),evV 9 6 (Value.slice ea ((ms.take ((k):Int).toNat).length) (ec)) (show sliceA Tryz.prog h19 94 (vL ea ms.length ec) none (some (vI k)) none=some (Value.slice ea ((ms.take ((k):Int).toNat).length) (ec)) from (own_pre entc_size und94 size105 (by decide) (T.ents.keep fun b r _ q=>x20 b r q) (kd:=.i64) (n:=((k):Int)) (by omega) (by omega)).1),evP 9 7 e123,evLw 10 2 agg51 size51 f131,evF 10 3 s135,evS 10 5 1 eb148 e150,evP 10 6 e159,evC 11 5 0 agg94 (x167 _ _ T.row),evV 11 7 (Value.slice (suf ea (((k):Int).toNat * 11)) ((ms.drop ((k):Int).toNat).length) ((ec - ((k):Int).toNat))) (show sliceA Tryz.prog h158 94 (vL ea ms.length ec) (some (vI k)) none none=some (Value.slice (suf ea (((k):Int).toNat * 11)) ((ms.drop ((k):Int).toNat).length) ((ec - ((k):Int).toNat))) from (own_suf entc_size und94 size105 (by decide) (T.ents.keep fun b r _ q=>x167 b r q) (kd:=.i64) (n:=((k):Int)) (by omega) (by omega)).1),evP 11 8 e176,evH 11 11 undef h188 (show (storeT Tryz.prog h175 94 (vP t 0) (Value.slice a180 ((((ms.take ((k):Int).toNat)++[((n,(s,w136,c137)):Int × SagA)])++(ms.drop ((k):Int).toNat)).length) (c181))=some h188∧(undef:Value)=undef) from ⟨by rw [e189]; exact store_cells size94 rfl (x183 _ _ T.row) (by decide) (by simp) rfl (by kernel_rfl),rfl⟩)] .ret h188 [(8,(vL none 0 0)),(40,(vL none 0 0)),(41,(vP t 0)),(42,(vP t 0)),(43,(vP t 0)),(44,(vL ea ms.length ec)),(45,(vI k)),(46,(Value.slice ea ((ms.take ((k):Int).toNat).length) (ec))),(47,(Value.slice a127 ((ms.take ((k):Int).toNat).length) (c128))),(8,(Value.slice a127 ((ms.take ((k):Int).toNat).length) (c128))),(48,(Value.slice a127 ((ms.take ((k):Int).toNat).length) (c128))),(49,(vI n)),(50,(vA #[(vS s.d.name),(vI s.d.rt),(vI s.d.dl),(vL sa s.d.xs.length cp),(vI s.st),(vI s.ix),(vB s.cn),(vI s.tr),(vI s.bg),(vI s.er)])),(51,(vA #[(vS s.d.name),(vI s.d.rt),(vI s.d.dl),(vL w136 s.d.xs.length c137),(vI s.st),(vI s.ix),(vB s.cn),(vI s.tr),(vI s.bg),(vI s.er)])),(52,(vA #[(vI n),(vS s.d.name),(vI s.d.rt),(vI s.d.dl),(vL w136 s.d.xs.length c137),(vI s.st),(vI s.ix),(vB s.cn),(vI s.tr),(vI s.bg),(vI s.er)])),(53,(vL (some ⟨b147,0,none⟩) 1 1)),(54,(Value.slice a164 (((ms.take ((k):Int).toNat)++[((n,(s,w136,c137)):Int × SagA)]).length) (c165))),(8,(Value.slice a164 (((ms.take ((k):Int).toNat)++[((n,(s,w136,c137)):Int × SagA)]).length) (c165))),(55,(vP t 0)),(56,(Value.slice a164 (((ms.take ((k):Int).toNat)++[((n,(s,w136,c137)):Int × SagA)]).length) (c165))),(57,(vP t 0)),(58,(vP t 0)),(59,(vP t 0)),(60,(vL ea ms.length ec)),(61,(vI k)),(62,(Value.slice (suf ea (((k):Int).toNat * 11)) ((ms.drop ((k):Int).toNat).length) ((ec - ((k):Int).toNat)))),(63,(Value.slice a180 ((((ms.take ((k):Int).toNat)++[((n,(s,w136,c137)):Int × SagA)])++(ms.drop ((k):Int).toNat)).length) (c181))),(64,(vP t 0)),(65,(vP t 0)),(6,(vI 0))] ?_
    have ee:addE (plT ms) n=0:=by rw [addE_none (plT_no f12),if_neg (by omega)]
    obtain ⟨O9,t9,o9⟩:=rf_ins T (n:=n) (i:=k.toNat) (y:=(s,w136,c137)) (by omega) i24 (fun p hp=>absurd (List.getElem?_eq_some_iff.1 hp).1 (by omega)) (by rfl) (by rfl) f190 p193 p191 p192 (fun b hb=>.inr (o146 b hb)) (fun b hb=>.inr (o187 b hb))
    exact end_ev [] (vI 0) (hK _ _ (⟨by rw [ee],x194,O9,by unfold addM; rw [ee,if_pos rfl]; exact t9,o9⟩))
 ·obtain ⟨j195,e196⟩:∃ z:Nat,iv10=(z:Int):=⟨iv10.toNat,by omega⟩
  have g197:ms[j195]?=some pe13:=by rw [show j195=iv10.toNat by omega]; exact g15
  have l198:=(List.getElem?_eq_some_iff.1 g197).1
  refine wc_ev [evF 1 2 s9,evV 1 3 (vB true) (show binA Tryz.prog .geq 3 (vI iv10) (vI 0)=some (vB true) from cmp_geq (decide_eq_true (show (0:Int)≤iv10 by omega)))] .ret h3 [(9,(vP t 0)),(10,(vI n)),(11,(vI iv10)),(12,(vB true)),(6,(vI 6))] ?_
  have ee:addE (plT ms) n=6:=addE_some (plT_some f17)
  exact end_ev [] (vI 6) (hK _ _ (⟨by rw [ee],Chg.ext x8,O,by unfold addM; rw [ee,if_neg (by decide)]; exact hT'.keep fun b r _ q=>x8 b r q,fun b hb=>.inl hb⟩))
set_option maxHeartbeats 4000000 in
theorem rid_ok (h:Heap) (k:Int):WCall Tryz.prog 51 #[(vI (k))] h (fun v h1=>v=.bool (decide (1≤k∧k≤9999))∧h=h1):=by
 by_cases c1:(1:Int)≤(k)
 ·by_cases c2:((k):Int)≤9999
  ·exact hCall_ev [geT 1 1 3 c1,leT 1 4 3 c2] [] (vB true) h ⟨by rw [decide_eq_true (by omega)],rfl⟩
  ·exact hCall_ev [geT 1 1 3 c1,leF 1 4 3 c2] [] (vB false) h ⟨by rw [decide_eq_false (by omega)],rfl⟩
 ·exact hCall_ev [geF 1 1 3 c1] [] (vB false) h ⟨by rw [decide_eq_false (by omega)],rfl⟩
set_option maxHeartbeats 4000000 in
theorem rtime_ok (h:Heap) (k:Int):WCall Tryz.prog 52 #[(vI (k))] h (fun v h1=>v=.bool (decide (0≤k∧k≤2147483648))∧h=h1):=by
 by_cases c1:(0:Int)≤(k)
 ·by_cases c2:((k):Int)≤2147483648
  ·exact hCall_ev [geT 1 1 3 c1,leT 1 4 3 c2] [] (vB true) h ⟨by rw [decide_eq_true (by omega)],rfl⟩
  ·exact hCall_ev [geT 1 1 3 c1,leF 1 4 3 c2] [] (vB false) h ⟨by rw [decide_eq_false (by omega)],rfl⟩
 ·exact hCall_ev [geF 1 1 3 c1] [] (vB false) h ⟨by rw [decide_eq_false (by omega)],rfl⟩
set_option maxRecDepth 10000 in
set_option maxHeartbeats 4000000 in
theorem rput_ok_r (h:Heap) {O:Nat→Prop} {t:Nat} {ms:TabS} {ea:Option Addr} {ec:Nat} (T:RfRow 96 105 h O t ms ea ec) (ok:WfT (plT ms)) (n:Int) (s:SagaM) (sa:Option Addr) (cp:Nat) (hl:LAt h stepc 2 s.d.xs (.slice sa s.d.xs.length cp)) (hlen:s.d.xs.length≤1048576) (hnm:s.d.name.size≤9223372036854775807) (hks:∀ x ∈ s.d.xs,x.key.size≤9223372036854775807):WCall Tryz.prog 22 #[(vP t 0),(vI (n)),(Value.agg #[(vS s.d.name),(vI (s.d.rt)),(vI (s.d.dl)),(Value.slice sa (s.d.xs.length) (cp)),(vI (s.st)),(vI (s.ix)),(vB s.cn),(vI (s.tr)),(vI (s.bg)),(vI (s.er))])] h (fun v h1=>v=.int .i64 (putE (plT ms) n s)∧Chg O h h1∧∃ O',RfAt 96 105 h1 O' t (putM (plT ms) n s)∧∀ b,O' b→O b ∨ h.size≤b):=by
 have hpl:=plT_len ms
 have hfew:=ok.few
 have hT':RfAt 96 105 h O t (plT ms):=⟨ms,ea,ec,rfl,T⟩
 refine wcall_by fun K hK=>?_
 refine wcall_at { tmps:=#[(vP t 0),(vI n),(vA #[(vS s.d.name),(vI s.d.rt),(vI s.d.dl),(vL sa s.d.xs.length cp),(vI s.st),(vI s.ix),(vB s.cn),(vI s.tr),(vI s.bg),(vI s.er)]),vZ,vZ,vZ,vZ,vZ,vZ,vZ,vZ,vZ,vZ,vZ,vZ,vZ,vZ,vZ,vZ,vZ],defers:=[] } (by kernel_rfl) ?_
 obtain ⟨b1,eb2⟩:∃ zq,zq=h.size:=⟨_,rfl⟩
 obtain ⟨h3,e4⟩:∃ zq,zq=h.push (.cells #[(vS s.d.name),(vI (s.d.rt)),(vI (s.d.dl)),(Value.slice sa (s.d.xs.length) (cp)),(vI (s.st)),(vI (s.ix)),(vB s.cn),(vI (s.tr)),(vI (s.bg)),(vI (s.er))] 51 (0,0)):=⟨_,rfl⟩
 have f5:=push_new e4
 rw [← eb2] at f5
 have x6:Ext h h3:=by rw [e4]; exact Ext.push _ _
 have o7:h.size≤b1:=by have:=(Ext.refl h).size; omega
 have x8:=(Ext.refl h).trans x6
 obtain ⟨_,_,s9,rfl,rfl⟩:=rid_ok h3 (n)
 by_cases c10:(1:Int)≤(n)∧((n):Int)≤9999
 ·obtain ⟨_,h11,s12,rfl,x13⟩:=rscheck_ok h3 s _ _ (hl.keep fun b r _ q=>x8 b r q) (by omega) hnm hks
  have f14:=x13 _ _ f5
  have x15:=x8.trans x13
  by_cases c16:((chkS s):Int)=0
  ·obtain ⟨z13494d,z13494b,z13494o⟩:=chkS_zero c16
   have:=defB_of z13494d
   have:=budB_of z13494b
   have z13494i:=okI_of z13494o
   have:=z13494i.1
   obtain ⟨_,h17,s18,rfl,x19,O13498,p20,o21⟩:=radd_ok_r h11 (T.keep fun b r _ q=>x15 b r q) ok (n) s _ _ (hl.keep fun b r _ q=>x15 b r q) (by omega)
   refine wc_ev [evA 0 0 eb2 e4,evFt 1 1 c10 s9,evLw 3 0 agg51 size51 f5,evFi 3 1 c16 s12,evLw 6 2 agg51 size51 f14,evF 6 3 s18] .ret h17 [(5,(vP b1 0)),(6,(vI 0)),(8,(vI n)),(9,(vB true)),(10,(vB false)),(11,(vA #[(vS s.d.name),(vI s.d.rt),(vI s.d.dl),(vL sa s.d.xs.length cp),(vI s.st),(vI s.ix),(vB s.cn),(vI s.tr),(vI s.bg),(vI s.er)])),(12,(vI 0)),(7,(vI 0)),(13,(vI 0)),(14,(vB false)),(16,(vP t 0)),(17,(vI n)),(18,(vA #[(vS s.d.name),(vI s.d.rt),(vI s.d.dl),(vL sa s.d.xs.length cp),(vI s.st),(vI s.ix),(vB s.cn),(vI s.tr),(vI s.bg),(vI s.er)])),(19,(vI (addE (plT ms) (n)))),(6,(vI (addE (plT ms) (n))))] ?_
   have ee:putE (plT ms) n s=addE (plT ms) n:=by unfold putE; rw [if_pos (by omega),if_pos c16]
   exact end_ev [] (vI (addE (plT ms) (n))) (hK _ _ (⟨by rw [ee],((Chg.ext (O:=O) x15).trans x19),O13498,by unfold putM; rw [ee]; exact p20,fun b hb=>(o21 b hb).imp id fun w=>by have:=(x15).size; omega⟩))
  ·refine wc_ev [evA 0 0 eb2 e4,evFt 1 1 c10 s9,evLw 3 0 agg51 size51 f5,evF 3 1 s12,neT 4 1 34 c16] .ret h11 [(5,(vP b1 0)),(6,(vI 0)),(8,(vI n)),(9,(vB true)),(10,(vB false)),(11,(vA #[(vS s.d.name),(vI s.d.rt),(vI s.d.dl),(vL sa s.d.xs.length cp),(vI s.st),(vI s.ix),(vB s.cn),(vI s.tr),(vI s.bg),(vI s.er)])),(12,(vI (chkS s))),(7,(vI (chkS s))),(13,(vI (chkS s))),(14,(vB true)),(15,(vI (chkS s))),(6,(vI (chkS s)))] ?_
   have ee:putE (plT ms) n s=chkS s:=by unfold putE; rw [if_pos (by omega),if_neg c16]
   exact end_ev [] (vI (chkS s)) (hK _ _ (⟨by rw [ee],Chg.ext x15,O,by unfold putM; rw [ee,if_neg c16]; exact hT'.keep fun b r _ q=>x15 b r q,fun b hb=>.inl hb⟩))
 ·refine wc_ev [evA 0 0 eb2 e4,evFf 1 1 c10 s9] .ret h3 [(5,(vP b1 0)),(6,(vI 0)),(8,(vI n)),(9,(vB false)),(10,(vB true)),(6,(vI 2))] ?_
  have ee:putE (plT ms) n s=2:=by unfold putE; rw [if_neg (by omega)]
  exact end_ev [] (vI 2) (hK _ _ (⟨by rw [ee],Chg.ext x8,O,by unfold putM; rw [ee,if_neg (by decide)]; exact hT'.keep fun b r _ q=>x8 b r q,fun b hb=>.inl hb⟩))
theorem rput_ok (h:Heap) {O:Nat→Prop} {t:Nat} {m:Tab} (hT:RfAt 96 105 h O t m) (ok:WfT m) (n:Int) (s:SagaM) (sa:Option Addr) (cp:Nat) (hl:LAt h stepc 2 s.d.xs (.slice sa s.d.xs.length cp)) (hlen:s.d.xs.length≤1048576) (hnm:s.d.name.size≤9223372036854775807) (hks:∀ x ∈ s.d.xs,x.key.size≤9223372036854775807):WCall Tryz.prog 22 #[(vP t 0),(vI (n)),(Value.agg #[(vS s.d.name),(vI (s.d.rt)),(vI (s.d.dl)),(Value.slice sa (s.d.xs.length) (cp)),(vI (s.st)),(vI (s.ix)),(vB s.cn),(vI (s.tr)),(vI (s.bg)),(vI (s.er))])] h (fun v h1=>v=.int .i64 (putE m n s)∧Chg O h h1∧∃ O',RfAt 96 105 h1 O' t (putM m n s)∧∀ b,O' b→O b ∨ h.size≤b):=by
 obtain ⟨ms,ea,ec,rfl,T⟩:=hT
 exact rput_ok_r h T ok n s sa cp hl hlen hnm hks
set_option maxRecDepth 10000 in
set_option maxHeartbeats 4000000 in
theorem rstartT_ok_r (h:Heap) {O:Nat→Prop} {t:Nat} {ms:TabS} {ea:Option Addr} {ec:Nat} (T:RfRow 96 105 h O t ms ea ec) (ok:WfT (plT ms)) (n:Int) (d:DefM) (sa:Option Addr) (cp:Nat) (hl:LAt h stepc 2 d.xs (.slice sa d.xs.length cp)) (hlen:d.xs.length≤1048576) (hnm:d.name.size≤9223372036854775807) (hks:∀ x ∈ d.xs,x.key.size≤9223372036854775807) (w:Int):WCall Tryz.prog 15 #[(vP t 0),(vI (n)),(Value.agg #[(vS d.name),(vI (d.rt)),(vI (d.dl)),(Value.slice sa (d.xs.length) (cp))]),(vI (w))] h (fun v h1=>v=.int .i64 (startE (plT ms) n d w)∧Chg O h h1∧∃ O',RfAt 96 105 h1 O' t (startM (plT ms) n d w)∧∀ b,O' b→O b ∨ h.size≤b):=by
 have hpl:=plT_len ms
 have hfew:=ok.few
 have hT':RfAt 96 105 h O t (plT ms):=⟨ms,ea,ec,rfl,T⟩
 refine wcall_by fun K hK=>?_
 refine wcall_at { tmps:=#[(vP t 0),(vI n),(vA #[(vS d.name),(vI d.rt),(vI d.dl),(vL sa d.xs.length cp)]),(vI w),vZ,vZ,vZ,vZ,vZ,vZ,vZ,vZ,vZ,vZ,vZ,vZ,vZ,vZ,vZ,vZ,vZ,vZ,vZ,vZ,vZ,vZ,vZ,vZ,vZ,vZ,vZ,vZ],defers:=[] } (by kernel_rfl) ?_
 obtain ⟨b1,eb2⟩:∃ zq,zq=h.size:=⟨_,rfl⟩
 obtain ⟨h3,e4⟩:∃ zq,zq=h.push (.cells #[(vS d.name),(vI (d.rt)),(vI (d.dl)),(Value.slice sa (d.xs.length) (cp))] 31 (0,0)):=⟨_,rfl⟩
 have f5:=push_new e4
 rw [← eb2] at f5
 have x6:Ext h h3:=by rw [e4]; exact Ext.push _ _
 have o7:h.size≤b1:=by have:=(Ext.refl h).size; omega
 have x8:=(Ext.refl h).trans x6
 obtain ⟨_,_,s9,rfl,rfl⟩:=rid_ok h3 (n)
 by_cases c10:(1:Int)≤(n)∧((n):Int)≤9999
 ·obtain ⟨_,_,s11,rfl,rfl⟩:=rtime_ok h3 (w)
  by_cases c12:(0:Int)≤(w)∧((w):Int)≤2147483648
  ·obtain ⟨_,hh13,sn14,rfl,x15⟩:=rdcheck_ok h3 d _ _ (hl.keep fun b r _ q=>x8 b r q) (by omega) hnm hks
   have f17:=x15 _ _ f5
   have x18:=x8.trans x15
   by_cases c19:((if defB d=true then 0 else 15):Int)=0
   ·have z20:((staE d (w)):Int)=0:=by unfold staE; rw [if_pos (ifz (by decide) c19),if_pos (by omega)]
    obtain ⟨v21,h22,s23,p24,p25,x26⟩:=rsstart_ok hh13 d _ _ (hl.keep fun b r _ q=>x18 b r q) (by omega) hnm hks (w)
    have x27:=x18.trans x26
    obtain ⟨w28,c29,p30,o31,n32⟩:=p25 z20
    obtain ⟨s33,e34⟩:∃ q,q=staS d (w):=⟨_,rfl⟩
    have e35:s33.d=d:=by rw [e34]; rfl
    have e36:s33.d.xs.length=(d).xs.length:=by rw [e35]
    rw [← e34,← e35] at p30
    rw [← e35] at o31 n32
    have c37:chkS s33=0:=by rw [e34]; exact sta_ok z20
    have z38:h.size≤hh13.size:=x18.size
    have o39:∀ zz,blk (Value.slice w28 (s33.d.xs.length) (c29)) zz→h.size≤zz:=fun zz hz=>by have:=n32 zz hz; omega
    obtain ⟨b40,eb41⟩:∃ zq,zq=h22.size:=⟨_,rfl⟩
    obtain ⟨h42,e43⟩:∃ zq,zq=h22.push (.cells #[(vS .empty),(vI 0),(vI 0),(Value.slice none 0 0),(vI 0),(vI 0),(vB false),(vI 0),(vI 0),(vI 0)] 51 (0,0)):=⟨_,rfl⟩
    have f44:=push_new e43
    rw [← eb41] at f44
    have n45:∀ zz,(blk (Value.slice w28 (s33.d.xs.length) (c29))) zz→¬ zz=b40:=fun zz hz ez=>by have:=o31.blk_lt hz; omega
    have x46:Ext h22 h42:=by rw [e43]; exact Ext.push _ _
    have o47:h.size≤b40:=by have:=x27.size; omega
    have p48:=o31.keep fun b r _ q=>x46 b r q
    have x49:=x27.trans x46
    obtain ⟨h50,e51⟩:∃ zq,zq=h42.setIfInBounds b40 (.cells #[(vS s33.d.name),(vI (s33.d.rt)),(vI (s33.d.dl)),(Value.slice w28 (s33.d.xs.length) (c29)),(vI (s33.st)),(vI (s33.ix)),(vB s33.cn),(vI (s33.tr)),(vI (s33.bg)),(vI (s33.er))] 51 (0,0)):=⟨_,rfl⟩
    have f52:=set_same e51 f44
    have p53:=p48.keep fun b r hb q=>(Chg.set e51).same b r q (n45 b hb)
    have x54:=Ext.setNew x49 e51 o47
    obtain ⟨_,h55,s56,rfl,x57,O13576,p58,o59⟩:=radd_ok_r h50 (T.keep fun b r _ q=>x54 b r q) ok (n) s33 _ _ (OwnAt.lat p53 stepc_size (tsz_of size67)) (by omega)
    refine wc_ev [evA 0 0 eb2 e4,evFt 1 1 c10 s9,evFt 1 5 c12 s11,evLw 3 0 agg31 size31 f5,evF 3 1 sn14,neF 3 2 34 c19,evLw 5 0 agg31 size31 f17,evFe 5 2 p30 s23,evA 5 6 eb41 e43,evUw 5 7 size51 f44 e51,evLw 6 2 agg51 size51 f52,evF 6 3 s56] .ret h55 [(6,(vP b1 0)),(8,(vI 0)),(11,(vI n)),(12,(vB true)),(13,(vB false)),(14,(vB false)),(15,(vI w)),(16,(vB true)),(17,(vB false)),(18,(vB false)),(19,(vA #[(vS d.name),(vI d.rt),(vI d.dl),(vL sa d.xs.length cp)])),(20,(vI (if defB d=true then 0 else 15))),(21,(vB false)),(23,(vA #[(vS d.name),(vI d.rt),(vI d.dl),(vL sa d.xs.length cp)])),(24,(vI w)),(25,(vT #[(vA #[(vS s33.d.name),(vI s33.d.rt),(vI s33.d.dl),(vL w28 s33.d.xs.length c29),(vI s33.st),(vI s33.ix),(vB s33.cn),(vI s33.tr),(vI s33.bg),(vI s33.er)]),(vI 0)])),(22,(vT #[(vA #[(vS s33.d.name),(vI s33.d.rt),(vI s33.d.dl),(vL w28 s33.d.xs.length c29),(vI s33.st),(vI s33.ix),(vB s33.cn),(vI s33.tr),(vI s33.bg),(vI s33.er)]),(vI 0)])),(26,(vA #[(vS s33.d.name),(vI s33.d.rt),(vI s33.d.dl),(vL w28 s33.d.xs.length c29),(vI s33.st),(vI s33.ix),(vB s33.cn),(vI s33.tr),(vI s33.bg),(vI s33.er)])),(27,(vI 0)),(9,(vP b40 0)),(10,(vI 0)),(28,(vP t 0)),(29,(vI n)),(30,(vA #[(vS s33.d.name),(vI s33.d.rt),(vI s33.d.dl),(vL w28 s33.d.xs.length c29),(vI s33.st),(vI s33.ix),(vB s33.cn),(vI s33.tr),(vI s33.bg),(vI s33.er)])),(31,(vI (addE (plT ms) (n)))),(8,(vI (addE (plT ms) (n))))] ?_
    have ee:startE (plT ms) n d w=addE (plT ms) n:=by unfold startE; rw [if_pos (by omega),if_pos (ifz (by decide) c19)]
    exact end_ev [] (vI (addE (plT ms) (n))) (hK _ _ (⟨by rw [ee],((Chg.ext (O:=O) x54).trans x57),O13576,by have q9:=p58; rw [e34] at q9; unfold startM; rw [ee]; exact q9,fun b hb=>(o59 b hb).imp id fun w=>by have:=(x54).size; omega⟩))
   ·refine wc_ev [evA 0 0 eb2 e4,evFt 1 1 c10 s9,evFt 1 5 c12 s11,evLw 3 0 agg31 size31 f5,evF 3 1 sn14,neT 3 2 34 c19] .ret hh13 [(6,(vP b1 0)),(8,(vI 0)),(11,(vI n)),(12,(vB true)),(13,(vB false)),(14,(vB false)),(15,(vI w)),(16,(vB true)),(17,(vB false)),(18,(vB false)),(19,(vA #[(vS d.name),(vI d.rt),(vI d.dl),(vL sa d.xs.length cp)])),(20,(vI (if defB d=true then 0 else 15))),(21,(vB true)),(8,(vI 15))] ?_
    have ee:startE (plT ms) n d w=15:=by unfold startE; rw [if_pos (by omega),if_neg (fun q=>c19 (by rw [if_pos q]))]
    exact end_ev [] (vI 15) (hK _ _ (⟨by rw [ee],Chg.ext x18,O,by unfold startM; rw [ee,if_neg (by decide)]; exact hT'.keep fun b r _ q=>x18 b r q,fun b hb=>.inl hb⟩))
  ·refine wc_ev [evA 0 0 eb2 e4,evFt 1 1 c10 s9,evFf 1 5 c12 s11] .ret h3 [(6,(vP b1 0)),(8,(vI 0)),(11,(vI n)),(12,(vB true)),(13,(vB false)),(14,(vB false)),(15,(vI w)),(16,(vB false)),(17,(vB true)),(18,(vB true)),(8,(vI 2))] ?_
   have ee:startE (plT ms) n d w=2:=by unfold startE; rw [if_neg (by omega)]
   exact end_ev [] (vI 2) (hK _ _ (⟨by rw [ee],Chg.ext x8,O,by unfold startM; rw [ee,if_neg (by decide)]; exact hT'.keep fun b r _ q=>x8 b r q,fun b hb=>.inl hb⟩))
 ·refine wc_ev [evA 0 0 eb2 e4,evFf 1 1 c10 s9] .ret h3 [(6,(vP b1 0)),(8,(vI 0)),(11,(vI n)),(12,(vB false)),(13,(vB true)),(14,(vB true)),(15,vZ),(16,vZ),(17,vZ),(18,(vB true)),(8,(vI 2))] ?_
  have ee:startE (plT ms) n d w=2:=by unfold startE; rw [if_neg (by omega)]
  exact end_ev [] (vI 2) (hK _ _ (⟨by rw [ee],Chg.ext x8,O,by unfold startM; rw [ee,if_neg (by decide)]; exact hT'.keep fun b r _ q=>x8 b r q,fun b hb=>.inl hb⟩))
theorem rstartT_ok (h:Heap) {O:Nat→Prop} {t:Nat} {m:Tab} (hT:RfAt 96 105 h O t m) (ok:WfT m) (n:Int) (d:DefM) (sa:Option Addr) (cp:Nat) (hl:LAt h stepc 2 d.xs (.slice sa d.xs.length cp)) (hlen:d.xs.length≤1048576) (hnm:d.name.size≤9223372036854775807) (hks:∀ x ∈ d.xs,x.key.size≤9223372036854775807) (w:Int):WCall Tryz.prog 15 #[(vP t 0),(vI (n)),(Value.agg #[(vS d.name),(vI (d.rt)),(vI (d.dl)),(Value.slice sa (d.xs.length) (cp))]),(vI (w))] h (fun v h1=>v=.int .i64 (startE m n d w)∧Chg O h h1∧∃ O',RfAt 96 105 h1 O' t (startM m n d w)∧∀ b,O' b→O b ∨ h.size≤b):=by
 obtain ⟨ms,ea,ec,rfl,T⟩:=hT
 exact rstartT_ok_r h T ok n d sa cp hl hlen hnm hks w
/-- A saga without disturbance. -/
def ES (d:DefM) (st ix er:Int):SagaM:=⟨d,st,ix,false,0,0,er⟩
/-- .. behind k results. -/
def EP (d:DefM) (st k:Int):SagaM:=if k < (d.xs.length:Nat) then ES d st k 0 else ES d (if st=1 then 2 else 4) 0 0
theorem resE_at {s:SagaM} {e1 e2 e3 res now:Int} (h:chkS s=0) (hr:(0≤res∧res≤18)∧0≤now∧now≤2147483648) (h4:s.st < 4) (he:e1=0∧e2=s.ix∧e3=phS s.st):resE s e1 e2 e3 res now=0:=by
 unfold resE; rw [if_pos h,if_pos hr,if_pos h4,if_pos he]
theorem resE_end {s:SagaM} {e1 e2 e3 res now:Int} (h:chkS s=0) (hr:(0≤res∧res≤18)∧0≤now∧now≤2147483648) (h4:¬ s.st < 4):resE s e1 e2 e3 res now=9:=by
 unfold resE; rw [if_pos h,if_pos hr,if_neg h4]
/-- Two sagas. -/
abbrev T2 (a b:SagaM):Tab:=[(1,a),(2,b)]
/-- A table that is filled from the greatest number down. -/
def FT (d:DefM):Nat→Tab
 | 0=>[]
 | i + 1=>(9999 - (i:Int),staS d i) :: FT d i
/-- .. where the first saga has been refused. -/
def FU (d:DefM):Tab:=setK (FT d 64) 9999 (ES d 5 0 7)
theorem resE_arg {s:SagaM} {e1 e2 e3 r w:Int} (h:chkS s=0) (ha:¬ ((0≤r∧r≤18)∧0≤w∧w≤2147483648)):resE s e1 e2 e3 r w=2:=by unfold resE; rw [if_pos h,if_neg ha]
theorem resE_order {s:SagaM} {e1 e2 e3 r w:Int} (h:chkS s=0) (ha:(0≤r∧r≤18)∧0≤w∧w≤2147483648) (h4:s.st < 4) (he:¬ (e1=0∧e2=s.ix∧e3=phS s.st)):resE s e1 e2 e3 r w=8:=by unfold resE; rw [if_pos h,if_pos ha,if_pos h4,if_neg he]
/-- What comes next in a full table. -/
def FN:List EffM:=(List.range 63).map fun (j:Nat)=>(⟨9936 + (j:Int),0,1⟩:EffM)
theorem effD_zero {a b:Int} (ha : -9223372036854775808≤a∧a≤9223372036854775807) (hb:1≤b∧b≤9999):effD a b=0 ↔ a=b:=by unfold effD; rw [IntKind.wrap_i64]; omega
theorem resTE_at {ms:TabS} {p:SagA} {n e1 e2 e3 res now:Int} (h:findK ms n=some p):resTE (plT ms) n e1 e2 e3 res now=resE p.1 (effD e1 n) e2 e3 res now:=by
 obtain ⟨g1,g2⟩:=getE_some (plT_some h)
 unfold resTE; rw [if_pos g1,g2]
set_option maxRecDepth 10000 in
set_option maxHeartbeats 4000000 in
theorem rresultT_ok_r (h:Heap) {O:Nat→Prop} {t:Nat} {ms:TabS} {ea:Option Addr} {ec:Nat} (T:RfRow 96 105 h O t ms ea ec) (ok:WfT (plT ms)) (n e1 e2 e3 res now:Int) (he1 : -9223372036854775808≤e1∧e1≤9223372036854775807):WCall Tryz.prog 18 #[(vP t 0),(vI (n)),(Value.agg #[(vI (e1)),(vI (e2)),(vI (e3))]),(vI (res)),(vI (now))] h (fun v h1=>v=.int .i64 (resTE (plT ms) n e1 e2 e3 res now)∧Chg O h h1∧∃ O',RfAt 96 105 h1 O' t (resTM (plT ms) n e1 e2 e3 res now)∧∀ b,O' b→O b ∨ h.size≤b):=by
 have hpl:=plT_len ms
 have hfew:=ok.few
 have hT':RfAt 96 105 h O t (plT ms):=⟨ms,ea,ec,rfl,T⟩
 refine wcall_by fun K hK=>?_
 refine wcall_at { tmps:=#[(vP t 0),(vI n),(vA #[(vI e1),(vI e2),(vI e3)]),(vI res),(vI now),vZ,vZ,vZ,vZ,vZ,vZ,vZ,vZ,vZ,vZ,vZ,vZ,vZ,vZ,vZ,vZ,vZ,vZ,vZ,vZ,vZ,vZ,vZ,vZ,vZ,vZ,vZ,vZ,vZ,vZ,vZ,vZ,vZ,vZ,vZ,vZ,vZ,vZ,vZ,vZ,vZ,vZ,vZ,vZ,vZ,vZ,vZ,vZ,vZ,vZ,vZ,vZ,vZ,vZ,vZ],defers:=[] } (by kernel_rfl) ?_
 obtain ⟨b1,eb2⟩:∃ zq,zq=h.size:=⟨_,rfl⟩
 obtain ⟨h3,e4⟩:∃ zq,zq=h.push (.cells #[(vI (e1)),(vI (e2)),(vI (e3))] 33 (0,0)):=⟨_,rfl⟩
 have f5:=push_new e4
 rw [← eb2] at f5
 have x6:Ext h h3:=by rw [e4]; exact Ext.push _ _
 have o7:h.size≤b1:=by have:=(Ext.refl h).size; omega
 have x8:=(Ext.refl h).trans x6
 obtain ⟨_,_,s9,⟨iv10,rfl,q11⟩,rfl⟩:=rfind_r h3 (T.keep fun b r _ q=>x8 b r q) ok (n)
 rcases q11 with ⟨f12,rfl⟩ | ⟨pe13,iv14,g15,k16,f17⟩
 ·refine wc_ev [evA 0 0 eb2 e4,evF 1 2 s9] .ret h3 [(7,(vP b1 0)),(10,(vI 0)),(12,(vP t 0)),(13,(vI n)),(14,(vI (-1))),(11,(vI (-1))),(15,(vI (-1))),(16,(vB true)),(10,(vI 5))] ?_
  have gg:=(getE_none (plT_no f12)).1
  have ee:resTE (plT ms) n e1 e2 e3 res now=5:=by unfold resTE; rw [if_neg (by rw [gg]; decide)]
  exact end_ev [] (vI 5) (hK _ _ (⟨by rw [ee],Chg.ext x8,O,by unfold resTM; rw [ee,if_neg (by decide)]; exact hT'.keep fun b r _ q=>x8 b r q,fun b hb=>.inl hb⟩))
 ·obtain ⟨j18,e19⟩:∃ z:Nat,iv10=(z:Int):=⟨iv10.toNat,by omega⟩
  have g20:ms[j18]?=some pe13:=by rw [show j18=iv10.toNat by omega]; exact g15
  have l21:=(List.getElem?_eq_some_iff.1 g20).1
  by_cases c22:((res):Int) < 0
  ·refine wc_ev [evA 0 0 eb2 e4,evF 1 2 s9,evV 2 1 (vB false) (show binA Tryz.prog .lss 3 (vI iv10) (vI 0)=some (vB false) from cmp_lss (decide_eq_false (show ¬ ((iv10):Int) < 0 by omega))),ltT 4 1 34 c22] .ret h3 [(7,(vP b1 0)),(10,(vI 0)),(12,(vP t 0)),(13,(vI n)),(14,(vI iv10)),(11,(vI iv10)),(15,(vI iv10)),(16,(vB false)),(17,(vI res)),(18,(vB true)),(19,(vB true)),(20,vZ),(21,vZ),(22,(vB true)),(23,(vB true)),(24,vZ),(25,vZ),(26,vZ),(27,(vB true)),(10,(vI 2))] ?_
   have at9:=resTE_at (e1:=e1) (e2:=e2) (e3:=e3) (res:=res) (now:=now) f17
   have ck9:=(ok.ixS g20).1
   have id9:=ok.ids _ (plT_mem (List.mem_of_getElem? g20))
   simp only [] at id9
   have ee:resTE (plT ms) n e1 e2 e3 res now=2:=at9.trans (resE_arg ck9 (by omega))
   exact end_ev [] (vI 2) (hK _ _ (⟨by rw [ee],Chg.ext x8,O,by unfold resTM; rw [ee,if_neg (by decide)]; exact hT'.keep fun b r _ q=>x8 b r q,fun b hb=>.inl hb⟩))
  ·by_cases c23:(18:Int) < (res)
   ·refine wc_ev [evA 0 0 eb2 e4,evF 1 2 s9,evV 2 1 (vB false) (show binA Tryz.prog .lss 3 (vI iv10) (vI 0)=some (vB false) from cmp_lss (decide_eq_false (show ¬ ((iv10):Int) < 0 by omega))),ltF 4 1 34 c22,gtT 4 4 34 c23] .ret h3 [(7,(vP b1 0)),(10,(vI 0)),(12,(vP t 0)),(13,(vI n)),(14,(vI iv10)),(11,(vI iv10)),(15,(vI iv10)),(16,(vB false)),(17,(vI res)),(18,(vB false)),(19,(vB false)),(20,(vI res)),(21,(vB true)),(22,(vB true)),(23,(vB true)),(24,vZ),(25,vZ),(26,vZ),(27,(vB true)),(10,(vI 2))] ?_
    have at9:=resTE_at (e1:=e1) (e2:=e2) (e3:=e3) (res:=res) (now:=now) f17
    have ck9:=(ok.ixS g20).1
    have id9:=ok.ids _ (plT_mem (List.mem_of_getElem? g20))
    simp only [] at id9
    have ee:resTE (plT ms) n e1 e2 e3 res now=2:=at9.trans (resE_arg ck9 (by omega))
    exact end_ev [] (vI 2) (hK _ _ (⟨by rw [ee],Chg.ext x8,O,by unfold resTM; rw [ee,if_neg (by decide)]; exact hT'.keep fun b r _ q=>x8 b r q,fun b hb=>.inl hb⟩))
   ·obtain ⟨_,_,s24,rfl,rfl⟩:=rtime_ok h3 (now)
    by_cases c25:(0:Int)≤(now)∧((now):Int)≤2147483648
    ·obtain ⟨cz26,fz27⟩:=ok.ixS g20
     have dz28:=defB_of (chkS_zero cz26).1
     have iz29:=ok.ids _ (plT_mem (List.mem_of_getElem? g20))
     obtain ⟨_,h30,s31,rfl,x32⟩:=ropen_r h3 (T.keep fun b r _ q=>x8 b r q) ok e19 g20
     have f33:=x32 _ _ f5
     have x34:=x8.trans x32
     by_cases c35:((pe13.2.1.st):Int) < 4
     ·obtain ⟨_,h36,s37,rfl,x38⟩:=rnext_r h30 (T.keep fun b r _ q=>x34 b r q) ok e19 g20 c35
      have f39:=x38 _ _ f33
      have x40:=x34.trans x38
      by_cases c41:(((e1):Int)=(pe13.1)∧((e2):Int)=(pe13.2.1.ix)∧((e3):Int)=(phS pe13.2.1.st))
      ·obtain ⟨h42,e43⟩:∃ zq,zq=h36.setIfInBounds b1 (.cells #[(vI 0),(vI (e2)),(vI (e3))] 33 (0,0)):=⟨_,rfl⟩
       have f44:=set_same e43 f39
       have x45:=Ext.setNew x40 e43 o7
       obtain ⟨b46,o47,k48,q49,a50⟩:=(T.ents.slice entc_size).at entc_size g20
       obtain ⟨cz51,fz52⟩:=ok.ixS g20
       have dz53:=defB_of (chkS_zero cz51).1
       have iz54:=ok.ids _ (plT_mem (List.mem_of_getElem? g20))
       have z55:((resE pe13.2.1 0 (e2) (e3) (res) (now)):Int)=0:=resE_at cz51 (by omega) c35 ⟨rfl,c41.2.1,c41.2.2⟩
       obtain ⟨v56,h57,s58,p59,p60,x61⟩:=rresult_ok h42 pe13.2.1 _ _ ((T.lists.keep fun b r _ q=>x45 b r q).ix g20) (by omega) (def_sizes (chkS_zero cz51).1).1 (def_sizes (chkS_zero cz51).1).2 0 (e2) (e3) (res) (now)
       have x62:=x45.trans x61
       obtain ⟨w63,c64,p65,o66,n67⟩:=p60 z55
       obtain ⟨s68,e69⟩:∃ q,q=nxtS pe13.2.1 (res) (now):=⟨_,rfl⟩
       have e70:s68.d=pe13.2.1.d:=by rw [e69]; exact nxtS_d _ _ _
       have e71:s68.d.xs.length=(pe13.2.1.d).xs.length:=by rw [e70]
       rw [← e69,← e70] at p65
       rw [← e70] at o66 n67
       have c72:chkS s68=0:=by rw [e69]; exact nxt_ok (resE_zero z55).1 (resE_zero z55).2.1 (resE_zero z55).2.2.2.1
       have z73:h.size≤h42.size:=x45.size
       have n74:∀ zz,blk (Value.slice w63 (s68.d.xs.length) (c64)) zz→¬ (blk (Value.slice ea (ms.length) (ec))) zz:=fun zz hz ez=>by have:=n67 zz hz; have:=(T.ents.keep fun b r _ q=>x45 b r q).blk_lt ez; omega
       have o75:∀ zz,blk (Value.slice w63 (s68.d.xs.length) (c64)) zz→h.size≤zz:=fun zz hz=>by have:=n67 zz hz; omega
       obtain ⟨b76,o77,q78,a79,k80,u81⟩:=(T.ents.keep fun b r _ q=>x62 b r q).store entc_size g20
       obtain ⟨h82,e83,p84,c85,z86⟩:=u81 (j:=1) (y:=((pe13.1,(s68,w63,c64)):Int × SagA)) (u:=(Value.agg #[(vS s68.d.name),(vI (s68.d.rt)),(vI (s68.d.dl)),(Value.slice w63 (s68.d.xs.length) (c64)),(vI (s68.st)),(vI (s68.ix)),(vB s68.cn),(vI (s68.tr)),(vI (s68.bg)),(vI (s68.er))])) size51 rfl rfl (by decide) (by kernel_rfl)
       have c87:Chg (blk (Value.slice ea (ms.length) (ec))) h57 h82:=c85.weak fun q hq=>by subst hq; exact q78
       have z88:h.size≤h57.size:=(Chg.ext (O:=O) x62).size
       have x89:=(Chg.ext (O:=O) x62).then c87 (fun b hb=>.inl ((fun b hb=>(T.foot b).2 (.inr (.inl hb))) b hb))
       have f90:=c87.same _ _ (x62 _ _ T.row) (fun hb=>(T.ents.keep fun b r _ q=>x62 b r q).ne (x62 _ _ T.row) (by decide) hb rfl)
       have p91:=(T.lists.keep fun b r _ q=>x62 b r q).keep fun b r hb q=>c87.same b r q ((LstAt.offO (T.lists.keep fun b r _ q=>x62 b r q) (T.ents.keep fun b r _ q=>x62 b r q) (by decide)) b hb)
       have p92:=o66.keep fun b r hb q=>c87.same b r q (n74 b hb)
       refine wc_ev [evA 0 0 eb2 e4,evF 1 2 s9,evV 2 1 (vB false) (show binA Tryz.prog .lss 3 (vI iv10) (vI 0)=some (vB false) from cmp_lss (decide_eq_false (show ¬ ((iv10):Int) < 0 by omega))),ltF 4 1 34 c22,gtF 4 4 34 c23,evFt 4 8 c25 s24,evFt 6 2 c35 s31,evLw 8 0 agg33 size33 f33,evF 8 3 s37,evLw 99 0 agg33 size33 f39,evQ 8 4 (cmp33_neq (decide_eq_false (not_not_intro c41))),evT 10 1 0 size3 f39 e43,evC 11 3 0 agg94 (x45 _ _ T.row),evC 11 8 0 agg94 (x45 _ _ T.row),evV 11 10 (vP b46 o47) (show indexAddrA Tryz.prog 94 (vL ea ms.length ec) (vI iv10)=some (vP b46 o47) from a50 und94 size105 e19),evV 11 12 (vA #[(vS pe13.2.1.d.name),(vI pe13.2.1.d.rt),(vI pe13.2.1.d.dl),(vL pe13.2.2.1 pe13.2.1.d.xs.length pe13.2.2.2),(vI pe13.2.1.st),(vI pe13.2.1.ix),(vB pe13.2.1.cn),(vI pe13.2.1.tr),(vI pe13.2.1.bg),(vI pe13.2.1.er)]) (show loadT Tryz.prog h42 51 (vP b46 (o47 + 1))=some (vA #[(vS pe13.2.1.d.name),(vI pe13.2.1.d.rt),(vI pe13.2.1.d.dl),(vL pe13.2.2.1 pe13.2.1.d.xs.length pe13.2.2.2),(vI pe13.2.1.st),(vI pe13.2.1.ix),(vB pe13.2.1.cn),(vI pe13.2.1.tr),(vI pe13.2.1.bg),(vI pe13.2.1.er)]) from (k48.keep fun b r _ q=>x45 b r q).agg (j:=1) agg51 size51 (show 1 + 10≤11 by decide) (by kernel_rfl)),evLw 11 13 agg33 size33 f44,evFe 11 16 p65 s58,evC 99 0 0 agg94 (x62 _ _ T.row),evV 11 20 (vP b76 o77) (show indexAddrA Tryz.prog 94 (vL ea ms.length ec) (vI iv10)=some (vP b76 o77) from a79 und94 size105 e19),evH 11 22 undef h82 (show (storeT Tryz.prog h57 51 (vP b76 (o77 + 1)) (vA #[(vS s68.d.name),(vI s68.d.rt),(vI s68.d.dl),(vL w63 s68.d.xs.length c64),(vI s68.st),(vI s68.ix),(vB s68.cn),(vI s68.tr),(vI s68.bg),(vI s68.er)])=some h82∧(undef:Value)=undef) from ⟨e83,rfl⟩)] .ret h82 [(7,(vP b1 0)),(10,(vI 0)),(12,(vP t 0)),(13,(vI n)),(14,(vI iv10)),(11,(vI iv10)),(15,(vI iv10)),(16,(vB false)),(17,(vI res)),(18,(vB false)),(19,(vB false)),(20,(vI res)),(21,(vB false)),(22,(vB false)),(23,(vB false)),(24,(vI now)),(25,(vB true)),(26,(vB false)),(27,(vB false)),(28,(vP t 0)),(29,(vI iv10)),(30,(vB true)),(31,(vB false)),(32,(vA #[(vI e1),(vI e2),(vI e3)])),(33,(vP t 0)),(34,(vI iv10)),(35,(vA #[(vI pe13.1),(vI pe13.2.1.ix),(vI (phS pe13.2.1.st))])),(36,(vB false)),(37,(vP b1 0)),(39,(vP t 0)),(40,(vP t 0)),(41,(vP t 0)),(42,(vL ea ms.length ec)),(43,(vI iv10)),(44,(vP t 0)),(45,(vP t 0)),(46,(vP t 0)),(47,(vL ea ms.length ec)),(48,(vI iv10)),(49,(vP b46 o47)),(50,(vP b46 (o47 + 1))),(51,(vA #[(vS pe13.2.1.d.name),(vI pe13.2.1.d.rt),(vI pe13.2.1.d.dl),(vL pe13.2.2.1 pe13.2.1.d.xs.length pe13.2.2.2),(vI pe13.2.1.st),(vI pe13.2.1.ix),(vB pe13.2.1.cn),(vI pe13.2.1.tr),(vI pe13.2.1.bg),(vI pe13.2.1.er)])),(52,(vA #[(vI 0),(vI e2),(vI e3)])),(53,(vI res)),(54,(vI now)),(55,(vT #[(vA #[(vS s68.d.name),(vI s68.d.rt),(vI s68.d.dl),(vL w63 s68.d.xs.length c64),(vI s68.st),(vI s68.ix),(vB s68.cn),(vI s68.tr),(vI s68.bg),(vI s68.er)]),(vI 0)])),(38,(vT #[(vA #[(vS s68.d.name),(vI s68.d.rt),(vI s68.d.dl),(vL w63 s68.d.xs.length c64),(vI s68.st),(vI s68.ix),(vB s68.cn),(vI s68.tr),(vI s68.bg),(vI s68.er)]),(vI 0)])),(56,(vA #[(vS s68.d.name),(vI s68.d.rt),(vI s68.d.dl),(vL w63 s68.d.xs.length c64),(vI s68.st),(vI s68.ix),(vB s68.cn),(vI s68.tr),(vI s68.bg),(vI s68.er)])),(57,(vI 0)),(58,(vP b76 o77)),(59,(vP b76 (o77 + 1))),(10,(vI 0))] ?_
       have at9:=resTE_at (e1:=e1) (e2:=e2) (e3:=e3) (res:=res) (now:=now) f17
       have ck9:=(ok.ixS g20).1
       have id9:=ok.ids _ (plT_mem (List.mem_of_getElem? g20))
       simp only [] at id9
       have dz:=effD_zero (a:=e1) (b:=n) he1 (by rw [← k16]; omega)
       have ee:resTE (plT ms) n e1 e2 e3 res now=0:=at9.trans (resE_at ck9 (by omega) c35 ⟨dz.2 (c41.1.trans k16),c41.2.1,c41.2.2⟩)
       obtain ⟨g1,g2⟩:=getE_some (plT_some f17)
       obtain ⟨O9,t9,o9⟩:=rf_set T ok.apartS g20 (y:=(s68,w63,c64)) f90 p84 p91 p92 (fun b hb=>.inr (o75 b hb))
       exact end_ev [] (vI 0) (hK _ _ (⟨by rw [ee],x89,O9,by unfold resTM; rw [ee,if_pos rfl,g2]; rw [e69,k16] at t9; exact t9,o9⟩))
      ·refine wc_ev [evA 0 0 eb2 e4,evF 1 2 s9,evV 2 1 (vB false) (show binA Tryz.prog .lss 3 (vI iv10) (vI 0)=some (vB false) from cmp_lss (decide_eq_false (show ¬ ((iv10):Int) < 0 by omega))),ltF 4 1 34 c22,gtF 4 4 34 c23,evFt 4 8 c25 s24,evFt 6 2 c35 s31,evLw 8 0 agg33 size33 f33,evF 8 3 s37,evLw 99 0 agg33 size33 f39,evQ 8 4 (cmp33_neq (decide_eq_true c41))] .ret h36 [(7,(vP b1 0)),(10,(vI 0)),(12,(vP t 0)),(13,(vI n)),(14,(vI iv10)),(11,(vI iv10)),(15,(vI iv10)),(16,(vB false)),(17,(vI res)),(18,(vB false)),(19,(vB false)),(20,(vI res)),(21,(vB false)),(22,(vB false)),(23,(vB false)),(24,(vI now)),(25,(vB true)),(26,(vB false)),(27,(vB false)),(28,(vP t 0)),(29,(vI iv10)),(30,(vB true)),(31,(vB false)),(32,(vA #[(vI e1),(vI e2),(vI e3)])),(33,(vP t 0)),(34,(vI iv10)),(35,(vA #[(vI pe13.1),(vI pe13.2.1.ix),(vI (phS pe13.2.1.st))])),(36,(vB true)),(10,(vI 8))] ?_
       have at9:=resTE_at (e1:=e1) (e2:=e2) (e3:=e3) (res:=res) (now:=now) f17
       have ck9:=(ok.ixS g20).1
       have id9:=ok.ids _ (plT_mem (List.mem_of_getElem? g20))
       simp only [] at id9
       have dz:=effD_zero (a:=e1) (b:=n) he1 (by rw [← k16]; omega)
       have ee:resTE (plT ms) n e1 e2 e3 res now=8:=at9.trans (resE_order ck9 (by omega) c35 (fun w=>c41 ⟨(dz.1 w.1).trans k16.symm,w.2.1,w.2.2⟩))
       exact end_ev [] (vI 8) (hK _ _ (⟨by rw [ee],Chg.ext x40,O,by unfold resTM; rw [ee,if_neg (by decide)]; exact hT'.keep fun b r _ q=>x40 b r q,fun b hb=>.inl hb⟩))
     ·refine wc_ev [evA 0 0 eb2 e4,evF 1 2 s9,evV 2 1 (vB false) (show binA Tryz.prog .lss 3 (vI iv10) (vI 0)=some (vB false) from cmp_lss (decide_eq_false (show ¬ ((iv10):Int) < 0 by omega))),ltF 4 1 34 c22,gtF 4 4 34 c23,evFt 4 8 c25 s24,evFf 6 2 c35 s31] .ret h30 [(7,(vP b1 0)),(10,(vI 0)),(12,(vP t 0)),(13,(vI n)),(14,(vI iv10)),(11,(vI iv10)),(15,(vI iv10)),(16,(vB false)),(17,(vI res)),(18,(vB false)),(19,(vB false)),(20,(vI res)),(21,(vB false)),(22,(vB false)),(23,(vB false)),(24,(vI now)),(25,(vB true)),(26,(vB false)),(27,(vB false)),(28,(vP t 0)),(29,(vI iv10)),(30,(vB false)),(31,(vB true)),(10,(vI 9))] ?_
      have at9:=resTE_at (e1:=e1) (e2:=e2) (e3:=e3) (res:=res) (now:=now) f17
      have ck9:=(ok.ixS g20).1
      have id9:=ok.ids _ (plT_mem (List.mem_of_getElem? g20))
      simp only [] at id9
      have ee:resTE (plT ms) n e1 e2 e3 res now=9:=at9.trans (resE_end ck9 (by omega) c35)
      exact end_ev [] (vI 9) (hK _ _ (⟨by rw [ee],Chg.ext x34,O,by unfold resTM; rw [ee,if_neg (by decide)]; exact hT'.keep fun b r _ q=>x34 b r q,fun b hb=>.inl hb⟩))
    ·refine wc_ev [evA 0 0 eb2 e4,evF 1 2 s9,evV 2 1 (vB false) (show binA Tryz.prog .lss 3 (vI iv10) (vI 0)=some (vB false) from cmp_lss (decide_eq_false (show ¬ ((iv10):Int) < 0 by omega))),ltF 4 1 34 c22,gtF 4 4 34 c23,evFf 4 8 c25 s24] .ret h3 [(7,(vP b1 0)),(10,(vI 0)),(12,(vP t 0)),(13,(vI n)),(14,(vI iv10)),(11,(vI iv10)),(15,(vI iv10)),(16,(vB false)),(17,(vI res)),(18,(vB false)),(19,(vB false)),(20,(vI res)),(21,(vB false)),(22,(vB false)),(23,(vB false)),(24,(vI now)),(25,(vB false)),(26,(vB true)),(27,(vB true)),(10,(vI 2))] ?_
     have at9:=resTE_at (e1:=e1) (e2:=e2) (e3:=e3) (res:=res) (now:=now) f17
     have ck9:=(ok.ixS g20).1
     have id9:=ok.ids _ (plT_mem (List.mem_of_getElem? g20))
     simp only [] at id9
     have ee:resTE (plT ms) n e1 e2 e3 res now=2:=at9.trans (resE_arg ck9 (by omega))
     exact end_ev [] (vI 2) (hK _ _ (⟨by rw [ee],Chg.ext x8,O,by unfold resTM; rw [ee,if_neg (by decide)]; exact hT'.keep fun b r _ q=>x8 b r q,fun b hb=>.inl hb⟩))
theorem rresultT_ok (h:Heap) {O:Nat→Prop} {t:Nat} {m:Tab} (hT:RfAt 96 105 h O t m) (ok:WfT m) (n e1 e2 e3 res now:Int) (he1 : -9223372036854775808≤e1∧e1≤9223372036854775807):WCall Tryz.prog 18 #[(vP t 0),(vI (n)),(Value.agg #[(vI (e1)),(vI (e2)),(vI (e3))]),(vI (res)),(vI (now))] h (fun v h1=>v=.int .i64 (resTE m n e1 e2 e3 res now)∧Chg O h h1∧∃ O',RfAt 96 105 h1 O' t (resTM m n e1 e2 e3 res now)∧∀ b,O' b→O b ∨ h.size≤b):=by
 obtain ⟨ms,ea,ec,rfl,T⟩:=hT
 exact rresultT_ok_r h T ok n e1 e2 e3 res now he1
theorem opn_take_yes {m:Tab} {j:Nat} {p:Int × SagaM} (h:m[j]?=some p) (ho:p.2.st < 4):opnT (m.take (j + 1))=opnT (m.take j)++[p]:=by
 unfold opnT; rw [take_next h,List.filter_append,List.filter_cons_of_pos (by simpa using ho)]; rfl
theorem opn_take_no {m:Tab} {j:Nat} {p:Int × SagaM} (h:m[j]?=some p) (ho:¬ p.2.st < 4):opnT (m.take (j + 1))=opnT (m.take j):=by
 unfold opnT; rw [take_next h,List.filter_append,List.filter_cons_of_neg (by simpa using ho)]; simp
theorem opn_lens {α:Type} (f:Int × SagaM→α) (m:Tab) (k:Nat):((opnT (m.take k)).map f).length≤m.length:=by
 rw [List.length_map]; exact Nat.le_trans (opn_len _) (List.length_take_le' ..)
theorem ids_lens (f:Int × SagaM→Int) (m:Tab) (k:Nat):((m.take k).map f).length≤m.length:=by
 rw [List.length_map]; exact List.length_take_le' ..
theorem LstAt.snoc {h:Heap} {ms:TabS} (k:LstAt h ms) {q:Int} {y:SagA} (hy:OwnAt h 67 stepc y.1.d.xs (sagL y)):LstAt h (ms++[(q,y)]):=by
 intro p hp
 rcases List.mem_append.1 hp with hp | hp
 ·exact k p hp
 ·obtain rfl:p=(q,y):=by simpa using hp
  exact hy
theorem lstF_snoc {ms:TabS} {q:Int} {y:SagA} {b:Nat} (hb:lstF (ms++[(q,y)]) b):lstF ms b ∨ blk (sagL y) b:=by
 obtain ⟨p,hp,hb⟩:=hb
 rcases List.mem_append.1 hp with hp | hp
 ·exact .inl ⟨p,hp,hb⟩
 ·obtain rfl:p=(q,y):=by simpa using hp
  exact .inr hb
theorem plT_snoc (ms:TabS) (q:Int) (y:SagA):plT (ms++[(q,y)])=plT ms++[(q,y.1)]:=by unfold plT; rw [List.map_append]; rfl
set_option maxHeartbeats 4000000 in
theorem rlen_ok_r (h:Heap) {O:Nat→Prop} {t:Nat} {ms:TabS} {ea:Option Addr} {ec:Nat} (T:RfRow 96 105 h O t ms ea ec) (ok:WfT (plT ms)):WCall Tryz.prog 71 #[(vP t 0)] h (fun v h1=>v=.int .i64 (((plT ms).length:Nat):Int)∧h=h1):=by
 have hpl:=plT_len ms
 have hfew:=ok.few
 have hT':RfAt 96 105 h O t (plT ms):=⟨ms,ea,ec,rfl,T⟩
 exact hCall_ev [evC 1 3 0 agg94 T.row] [] (vI ((ms.length:Nat))) h ⟨by rw [hpl],rfl⟩
theorem rlen_ok (h:Heap) {O:Nat→Prop} {t:Nat} {m:Tab} (hT:RfAt 96 105 h O t m) (ok:WfT m):WCall Tryz.prog 71 #[(vP t 0)] h (fun v h1=>v=.int .i64 ((m.length:Nat):Int)∧Ext h h1):=by
 obtain ⟨ms,ea,ec,rfl,T⟩:=hT
 obtain ⟨v,h1,q,r,rfl⟩:=rlen_ok_r h T ok
 exact ⟨v,h,q,r,Ext.refl h⟩
set_option maxRecDepth 10000 in
set_option maxHeartbeats 4000000 in
theorem rids_ok_r (h:Heap) {O:Nat→Prop} {t:Nat} {ms:TabS} {ea:Option Addr} {ec:Nat} (T:RfRow 96 105 h O t ms ea ec) (ok:WfT (plT ms)):WCall Tryz.prog 69 #[(vP t 0)] h (fun v h1=>∃ oa oc,v=.slice oa (idsL (plT ms)).length oc∧OwnAt h1 3 zc (idsL (plT ms)) v∧Ext h h1∧∀ b,blk v b→h.size≤b):=by
 have hpl:=plT_len ms
 have hfew:=ok.few
 have hT':RfAt 96 105 h O t (plT ms):=⟨ms,ea,ec,rfl,T⟩
 refine wcall_by fun K hK=>?_
 refine wcall_at { tmps:=#[(vP t 0),vZ,vZ,vZ,vZ,vZ,vZ,vZ,vZ,vZ,vZ,vZ,vZ,vZ,vZ,vZ,vZ,vZ,vZ,vZ,vZ,vZ,vZ,vZ,vZ,vZ],defers:=[] } (by kernel_rfl) ?_
 refine wc_seq' (subc (bodyOf Tryz.prog 69) [0]) (subc (bodyOf Tryz.prog 69) [1]) (by kernel_rfl) ?_
 refine wc_ev [] .normal h [(2,(vL none 0 0))] ?_
 refine wc_seq' (subc (bodyOf Tryz.prog 69) [1,0]) (subc (bodyOf Tryz.prog 69) [1,1]) (by kernel_rfl) ?_
 refine wc_ev [] .normal h [(3,(vL none 0 0))] ?_
 refine wc_seq' (subc (bodyOf Tryz.prog 69) [1,1,0]) (subc (bodyOf Tryz.prog 69) [1,1,1]) (by kernel_rfl) ?_
 refine wc_seq' (subc (bodyOf Tryz.prog 69) [1,1,0,0]) (subc (bodyOf Tryz.prog 69) [1,1,0,1]) (by kernel_rfl) ?_
 refine wc_ev [] .normal h [(4,(vI 0))] ?_
 refine wc_block' 0 (subc (bodyOf Tryz.prog 69) [1,1,0,1,0]) (by kernel_rfl) ?_
 refine wc_loop' (subc (bodyOf Tryz.prog 69) [1,1,0,1,0,0]) (by kernel_rfl) (fun n' a' h'=>∃ (k:Int) (out:List Int) (oa:Option Addr) (oc:Nat) (g0:Nat→Value),a'={ tmps:=#[(vP t 0),vZ,(vL none 0 0),(vL oa out.length oc),(vI k),(g0 5),(g0 6),(g0 7),(g0 8),(g0 9),(g0 10),(g0 11),(g0 12),(g0 13),(g0 14),(g0 15),(g0 16),(g0 17),(g0 18),(g0 19),(g0 20),(g0 21),(g0 22),(g0 23),(g0 24),vZ],defers:=[] }∧Ext h h'∧n'=ms.length - k.toNat∧(0≤k∧k≤(ms.length:Nat))∧out=(((plT ms).take k.toNat).map (fun p=>p.1))∧(∀ zz,blk (vL oa out.length oc) zz→h.size≤zz)∧OwnAt h' 3 zc out (vL oa out.length oc)) ?_ (ms.length - (0:Int).toNat) ⟨0,[],none,0,(fun i=>([vU,vU,vU,vU,vU,vZ,vZ,vZ,vZ,vZ,vZ,vZ,vZ,vZ,vZ,vZ,vZ,vZ,vZ,vZ,vZ,vZ,vZ,vZ,vZ]:List Value).getD i undef),by as_aux_lemma=>kernel_rfl,(Ext.refl h),rfl,by omega,rfl,fun zz hz=>hz.elim,.inl ⟨rfl,rfl⟩⟩
 rintro n' _ h2 ⟨k,out,oa,oc,g0,rfl,x3,m4,i5,i6,i7,p8⟩
 have lo1:out.length≤64:=by have e9:=congrArg List.length i6; have:=ids_lens (fun p=>p.1) (plT ms) k.toNat; omega
 by_cases c9:((k):Int) < ((ms.length:Nat))
 ·obtain ⟨i10,v11,e12,l13,g14⟩:=list_at ms (e:=(k)) (by omega) (by first | omega | (simp only [List.length_set,List.length_append,List.length_singleton]; omega))
  obtain ⟨b15,o16,k17,q18,a19⟩:=(T.ents.slice entc_size).at entc_size g14
  obtain ⟨cz20,fz21⟩:=ok.ixS g14
  have dz22:=defB_of (chkS_zero cz20).1
  have iz23:=ok.ids _ (plT_mem (List.mem_of_getElem? g14))
  obtain ⟨b24,eb25⟩:∃ zq,zq=h2.size:=⟨_,rfl⟩
  obtain ⟨h26,e27⟩:∃ zq,zq=h2.push (.cells #[(vI (v11.1))] 3 (0,0)):=⟨_,rfl⟩
  have f28:=push_new e27
  rw [← eb25] at f28
  have x29:Ext h2 h26:=by rw [e27]; exact Ext.push _ _
  have o30:h.size≤b24:=by have:=x3.size; omega
  have p31:=p8.keep fun b r _ q=>x29 b r q
  have x32:=x3.trans x29
  obtain ⟨w33,h34,e35,p36,c37,n38,z39⟩:=own_append und63 sizeb3 zero3 rfl (by decide) zc_size (x:=v11.1) p31 f28 rfl (by omega) (by unfold maxLen; omega)
  obtain ⟨a40,c41,rfl⟩:=(p36.slice zc_size).len
  have z42:h.size≤h26.size:=x32.size
  have x43:Ext h _:=(Chg.then (O:=fun _=>False) (Chg.ext x32) c37 (fun b hb=>.inr (i7 b hb))).toExt'
  have o44:∀ zz,blk (Value.slice a40 ((out++[v11.1]).length) (c41)) zz→h.size≤zz:=fun zz hz=>by have:=n38 zz hz; have:=z42; omega
  refine wc_ev [evC 3 4 0 agg94 (x3 _ _ T.row),ltT 3 6 3 c9,evC 5 4 0 agg94 (x3 _ _ T.row),evV 5 6 (vP b15 o16) (show indexAddrA Tryz.prog 94 (vL ea ms.length ec) (vI k)=some (vP b15 o16) from a19 und94 size105 e12),evV 5 8 (vI v11.1) (show loadT Tryz.prog h2 3 (vP b15 o16)=some (vI v11.1) from (k17.keep fun b r _ q=>x3 b r q).cell (j:=0) agg3 rfl),evS 5 9 1 eb25 e27,evP 5 10 e35,evV 4 1 (vI ((k) + 1)) (show binA Tryz.prog .add 3 (vI k) (vI 1)=some (vI ((k) + 1)) from add_i64 (by omega) (by omega))] .normal h34 [(5,(vI k)),(6,(vP t 0)),(7,(vP t 0)),(8,(vP t 0)),(9,(vL ea ms.length ec)),(10,(vI ((ms.length:Nat)))),(11,(vB true)),(14,(vL oa out.length oc)),(15,(vP t 0)),(16,(vP t 0)),(17,(vP t 0)),(18,(vL ea ms.length ec)),(19,(vI k)),(20,(vP b15 o16)),(21,(vP b15 o16)),(22,(vI v11.1)),(23,(vL (some ⟨b24,0,none⟩) 1 1)),(24,(vL a40 ((out++[v11.1]).length) c41)),(3,(vL a40 ((out++[v11.1]).length) c41)),(12,(vI k)),(13,(vI ((k) + 1))),(4,(vI ((k) + 1)))] ?_
  exact ⟨ms.length - (k + 1).toNat,by omega,⟨k + 1,(out++[v11.1]),a40,c41,(fun i=>([vU,vU,vU,vU,vU,(vI k),(vP t 0),(vP t 0),(vP t 0),(vL ea ms.length ec),(vI ((ms.length:Nat))),(vB true),(vI k),(vI ((k) + 1)),(vL oa out.length oc),(vP t 0),(vP t 0),(vP t 0),(vL ea ms.length ec),(vI k),(vP b15 o16),(vP b15 o16),(vI v11.1),(vL (some ⟨b24,0,none⟩) 1 1),(vL a40 ((out++[v11.1]).length) c41)]:List Value).getD i undef),by as_aux_lemma=>kernel_rfl,x43,rfl,by omega,by rw [show (k + 1).toNat=i10 + 1 by omega,take_next (plT_ix (k:=v11.1) (c:=v11.2) g14),List.map_append,show i10=k.toNat by omega,← i6]; rfl,o44,p36⟩⟩
 ·refine wc_ev [evC 3 4 0 agg94 (x3 _ _ T.row),ltF 3 6 3 c9] (.exit 0) h2 [(5,(vI k)),(6,(vP t 0)),(7,(vP t 0)),(8,(vP t 0)),(9,(vL ea ms.length ec)),(10,(vI ((ms.length:Nat)))),(11,(vB false))] ?_
  refine wc_ev [] .ret h2 [(25,(vL oa out.length oc)),(2,(vL oa out.length oc))] ?_
  have e9:out=idsL (plT ms):=by have e8:=i6; rw [List.take_of_length_le (by omega)] at e8; exact e8
  exact end_ev [] (vL oa out.length oc) (hK _ _ (⟨oa,oc,by rw [← e9],by rw [← e9]; exact p8,x3,by intro b hb; exact i7 b hb⟩))
theorem rids_ok (h:Heap) {O:Nat→Prop} {t:Nat} {m:Tab} (hT:RfAt 96 105 h O t m) (ok:WfT m) :WCall Tryz.prog 69 #[(vP t 0)] h (fun v h1=>∃ oa oc,v=.slice oa (idsL m).length oc∧OwnAt h1 3 zc (idsL m) v∧Ext h h1∧∀ b,blk v b→h.size≤b):=by
 obtain ⟨ms,ea,ec,rfl,T⟩:=hT
 exact rids_ok_r h T ok 
set_option maxRecDepth 10000 in
set_option maxHeartbeats 4000000 in
theorem rOpen_ok_r (h:Heap) {O:Nat→Prop} {t:Nat} {ms:TabS} {ea:Option Addr} {ec:Nat} (T:RfRow 96 105 h O t ms ea ec) (ok:WfT (plT ms)):WCall Tryz.prog 70 #[(vP t 0)] h (fun v h1=>∃ oa oc,v=.slice oa (opnL (plT ms)).length oc∧OwnAt h1 3 zc (opnL (plT ms)) v∧Ext h h1∧∀ b,blk v b→h.size≤b):=by
 have hpl:=plT_len ms
 have hfew:=ok.few
 have hT':RfAt 96 105 h O t (plT ms):=⟨ms,ea,ec,rfl,T⟩
 refine wcall_by fun K hK=>?_
 refine wcall_at { tmps:=#[(vP t 0),vZ,vZ,vZ,vZ,vZ,vZ,vZ,vZ,vZ,vZ,vZ,vZ,vZ,vZ,vZ,vZ,vZ,vZ,vZ,vZ,vZ,vZ,vZ,vZ,vZ,vZ,vZ,vZ],defers:=[] } (by kernel_rfl) ?_
 refine wc_seq' (subc (bodyOf Tryz.prog 70) [0]) (subc (bodyOf Tryz.prog 70) [1]) (by kernel_rfl) ?_
 refine wc_ev [] .normal h [(2,(vL none 0 0))] ?_
 refine wc_seq' (subc (bodyOf Tryz.prog 70) [1,0]) (subc (bodyOf Tryz.prog 70) [1,1]) (by kernel_rfl) ?_
 refine wc_ev [] .normal h [(3,(vL none 0 0))] ?_
 refine wc_seq' (subc (bodyOf Tryz.prog 70) [1,1,0]) (subc (bodyOf Tryz.prog 70) [1,1,1]) (by kernel_rfl) ?_
 refine wc_seq' (subc (bodyOf Tryz.prog 70) [1,1,0,0]) (subc (bodyOf Tryz.prog 70) [1,1,0,1]) (by kernel_rfl) ?_
 refine wc_ev [] .normal h [(4,(vI 0))] ?_
 refine wc_block' 0 (subc (bodyOf Tryz.prog 70) [1,1,0,1,0]) (by kernel_rfl) ?_
 refine wc_loop' (subc (bodyOf Tryz.prog 70) [1,1,0,1,0,0]) (by kernel_rfl) (fun n' a' h'=>∃ (k:Int) (out:List Int) (oa:Option Addr) (oc:Nat) (g0:Nat→Value),a'={ tmps:=#[(vP t 0),vZ,(vL none 0 0),(vL oa out.length oc),(vI k),(g0 5),(g0 6),(g0 7),(g0 8),(g0 9),(g0 10),(g0 11),(g0 12),(g0 13),(g0 14),(g0 15),(g0 16),(g0 17),(g0 18),(g0 19),(g0 20),(g0 21),(g0 22),(g0 23),(g0 24),(g0 25),(g0 26),(g0 27),vZ],defers:=[] }∧Ext h h'∧n'=ms.length - k.toNat∧(0≤k∧k≤(ms.length:Nat))∧out=((opnT ((plT ms).take k.toNat)).map (fun p=>p.1))∧(∀ zz,blk (vL oa out.length oc) zz→h.size≤zz)∧OwnAt h' 3 zc out (vL oa out.length oc)) ?_ (ms.length - (0:Int).toNat) ⟨0,[],none,0,(fun i=>([vU,vU,vU,vU,vU,vZ,vZ,vZ,vZ,vZ,vZ,vZ,vZ,vZ,vZ,vZ,vZ,vZ,vZ,vZ,vZ,vZ,vZ,vZ,vZ,vZ,vZ,vZ]:List Value).getD i undef),by as_aux_lemma=>kernel_rfl,(Ext.refl h),rfl,by omega,rfl,fun zz hz=>hz.elim,.inl ⟨rfl,rfl⟩⟩
 rintro n' _ h2 ⟨k,out,oa,oc,g0,rfl,x3,m4,i5,i6,i7,p8⟩
 have lo1:out.length≤64:=by have e9:=congrArg List.length i6; have:=opn_lens (fun p=>p.1) (plT ms) k.toNat; omega
 by_cases c9:((k):Int) < ((ms.length:Nat))
 ·obtain ⟨i10,v11,e12,l13,g14⟩:=list_at ms (e:=(k)) (by omega) (by omega)
  obtain ⟨cz15,fz16⟩:=ok.ixS g14
  have dz17:=defB_of (chkS_zero cz15).1
  have iz18:=ok.ids _ (plT_mem (List.mem_of_getElem? g14))
  obtain ⟨_,h19,s20,rfl,x21⟩:=ropen_r h2 (T.keep fun b r _ q=>x3 b r q) ok e12 g14
  have p22:=p8.keep fun b r _ q=>x21 b r q
  have x23:=x3.trans x21
  by_cases c24:((v11.2.1.st):Int) < 4
  ·obtain ⟨b25,o26,k27,q28,a29⟩:=(T.ents.slice entc_size).at entc_size g14
   obtain ⟨cz30,fz31⟩:=ok.ixS g14
   have dz32:=defB_of (chkS_zero cz30).1
   have iz33:=ok.ids _ (plT_mem (List.mem_of_getElem? g14))
   obtain ⟨b34,eb35⟩:∃ zq,zq=h19.size:=⟨_,rfl⟩
   obtain ⟨h36,e37⟩:∃ zq,zq=h19.push (.cells #[(vI (v11.1))] 3 (0,0)):=⟨_,rfl⟩
   have f38:=push_new e37
   rw [← eb35] at f38
   have x39:Ext h19 h36:=by rw [e37]; exact Ext.push _ _
   have o40:h.size≤b34:=by have:=x23.size; omega
   have p41:=p22.keep fun b r _ q=>x39 b r q
   have x42:=x23.trans x39
   obtain ⟨w43,h44,e45,p46,c47,n48,z49⟩:=own_append und63 sizeb3 zero3 rfl (by decide) zc_size (x:=v11.1) p41 f38 rfl (by omega) (by unfold maxLen; omega)
   obtain ⟨a50,c51,rfl⟩:=(p46.slice zc_size).len
   have z52:h.size≤h36.size:=x42.size
   have x53:Ext h _:=(Chg.then (O:=fun _=>False) (Chg.ext x42) c47 (fun b hb=>.inr (i7 b hb))).toExt'
   have o54:∀ zz,blk (Value.slice a50 ((out++[v11.1]).length) (c51)) zz→h.size≤zz:=fun zz hz=>by have:=n48 zz hz; have:=z52; omega
   refine wc_ev [evC 3 4 0 agg94 (x3 _ _ T.row),ltT 3 6 3 c9,evFt 5 2 c24 s20,evC 6 4 0 agg94 (x23 _ _ T.row),evV 6 6 (vP b25 o26) (show indexAddrA Tryz.prog 94 (vL ea ms.length ec) (vI k)=some (vP b25 o26) from a29 und94 size105 e12),evV 6 8 (vI v11.1) (show loadT Tryz.prog h19 3 (vP b25 o26)=some (vI v11.1) from (k27.keep fun b r _ q=>x23 b r q).cell (j:=0) agg3 rfl),evS 6 9 1 eb35 e37,evP 6 10 e45,evV 4 1 (vI ((k) + 1)) (show binA Tryz.prog .add 3 (vI k) (vI 1)=some (vI ((k) + 1)) from add_i64 (by omega) (by omega))] .normal h44 [(5,(vI k)),(6,(vP t 0)),(7,(vP t 0)),(8,(vP t 0)),(9,(vL ea ms.length ec)),(10,(vI ((ms.length:Nat)))),(11,(vB true)),(14,(vP t 0)),(15,(vI k)),(16,(vB true)),(17,(vL oa out.length oc)),(18,(vP t 0)),(19,(vP t 0)),(20,(vP t 0)),(21,(vL ea ms.length ec)),(22,(vI k)),(23,(vP b25 o26)),(24,(vP b25 o26)),(25,(vI v11.1)),(26,(vL (some ⟨b34,0,none⟩) 1 1)),(27,(vL a50 ((out++[v11.1]).length) c51)),(3,(vL a50 ((out++[v11.1]).length) c51)),(12,(vI k)),(13,(vI ((k) + 1))),(4,(vI ((k) + 1)))] ?_
   exact ⟨ms.length - (k + 1).toNat,by omega,⟨k + 1,(out++[v11.1]),a50,c51,(fun i=>([vU,vU,vU,vU,vU,(vI k),(vP t 0),(vP t 0),(vP t 0),(vL ea ms.length ec),(vI ((ms.length:Nat))),(vB true),(vI k),(vI ((k) + 1)),(vP t 0),(vI k),(vB true),(vL oa out.length oc),(vP t 0),(vP t 0),(vP t 0),(vL ea ms.length ec),(vI k),(vP b25 o26),(vP b25 o26),(vI v11.1),(vL (some ⟨b34,0,none⟩) 1 1),(vL a50 ((out++[v11.1]).length) c51)]:List Value).getD i undef),by as_aux_lemma=>kernel_rfl,x53,rfl,by omega,by rw [show (k + 1).toNat=i10 + 1 by omega,opn_take_yes (plT_ix (k:=v11.1) (c:=v11.2) g14) c24,List.map_append,show i10=k.toNat by omega,← i6]; rfl,o54,p46⟩⟩
  ·refine wc_ev [evC 3 4 0 agg94 (x3 _ _ T.row),ltT 3 6 3 c9,evFf 5 2 c24 s20,evV 4 1 (vI ((k) + 1)) (show binA Tryz.prog .add 3 (vI k) (vI 1)=some (vI ((k) + 1)) from add_i64 (by omega) (by omega))] .normal h19 [(5,(vI k)),(6,(vP t 0)),(7,(vP t 0)),(8,(vP t 0)),(9,(vL ea ms.length ec)),(10,(vI ((ms.length:Nat)))),(11,(vB true)),(14,(vP t 0)),(15,(vI k)),(16,(vB false)),(12,(vI k)),(13,(vI ((k) + 1))),(4,(vI ((k) + 1)))] ?_
   exact ⟨ms.length - (k + 1).toNat,by omega,⟨k + 1,out,oa,oc,(fun i=>([vU,vU,vU,vU,vU,(vI k),(vP t 0),(vP t 0),(vP t 0),(vL ea ms.length ec),(vI ((ms.length:Nat))),(vB true),(vI k),(vI ((k) + 1)),(vP t 0),(vI k),(vB false),(g0 17),(g0 18),(g0 19),(g0 20),(g0 21),(g0 22),(g0 23),(g0 24),(g0 25),(g0 26),(g0 27)]:List Value).getD i undef),by as_aux_lemma=>kernel_rfl,x23,rfl,by omega,by rw [show (k + 1).toNat=i10 + 1 by omega,opn_take_no (plT_ix (k:=v11.1) (c:=v11.2) g14) c24,show i10=k.toNat by omega]; exact i6,i7,p22⟩⟩
 ·refine wc_ev [evC 3 4 0 agg94 (x3 _ _ T.row),ltF 3 6 3 c9] (.exit 0) h2 [(5,(vI k)),(6,(vP t 0)),(7,(vP t 0)),(8,(vP t 0)),(9,(vL ea ms.length ec)),(10,(vI ((ms.length:Nat)))),(11,(vB false))] ?_
  refine wc_ev [] .ret h2 [(28,(vL oa out.length oc)),(2,(vL oa out.length oc))] ?_
  have e9:out=opnL (plT ms):=by have e8:=i6; rw [List.take_of_length_le (by omega)] at e8; exact e8
  exact end_ev [] (vL oa out.length oc) (hK _ _ (⟨oa,oc,by rw [← e9],by rw [← e9]; exact p8,x3,by intro b hb; exact i7 b hb⟩))
theorem rOpen_ok (h:Heap) {O:Nat→Prop} {t:Nat} {m:Tab} (hT:RfAt 96 105 h O t m) (ok:WfT m) :WCall Tryz.prog 70 #[(vP t 0)] h (fun v h1=>∃ oa oc,v=.slice oa (opnL m).length oc∧OwnAt h1 3 zc (opnL m) v∧Ext h h1∧∀ b,blk v b→h.size≤b):=by
 obtain ⟨ms,ea,ec,rfl,T⟩:=hT
 exact rOpen_ok_r h T ok 
set_option maxRecDepth 10000 in
set_option maxHeartbeats 4000000 in
theorem rNext_ok_r (h:Heap) {O:Nat→Prop} {t:Nat} {ms:TabS} {ea:Option Addr} {ec:Nat} (T:RfRow 96 105 h O t ms ea ec) (ok:WfT (plT ms)):WCall Tryz.prog 16 #[(vP t 0)] h (fun v h1=>∃ oa oc,v=.slice oa (nxtL (plT ms)).length oc∧OwnAt h1 33 effc (nxtL (plT ms)) v∧Ext h h1∧∀ b,blk v b→h.size≤b):=by
 have hpl:=plT_len ms
 have hfew:=ok.few
 have hT':RfAt 96 105 h O t (plT ms):=⟨ms,ea,ec,rfl,T⟩
 refine wcall_by fun K hK=>?_
 refine wcall_at { tmps:=#[(vP t 0),vZ,vZ,vZ,vZ,vZ,vZ,vZ,vZ,vZ,vZ,vZ,vZ,vZ,vZ,vZ,vZ,vZ,vZ,vZ,vZ,vZ,vZ,vZ],defers:=[] } (by kernel_rfl) ?_
 refine wc_seq' (subc (bodyOf Tryz.prog 16) [0]) (subc (bodyOf Tryz.prog 16) [1]) (by kernel_rfl) ?_
 refine wc_ev [] .normal h [(2,(vL none 0 0))] ?_
 refine wc_seq' (subc (bodyOf Tryz.prog 16) [1,0]) (subc (bodyOf Tryz.prog 16) [1,1]) (by kernel_rfl) ?_
 refine wc_ev [] .normal h [(3,(vL none 0 0))] ?_
 refine wc_seq' (subc (bodyOf Tryz.prog 16) [1,1,0]) (subc (bodyOf Tryz.prog 16) [1,1,1]) (by kernel_rfl) ?_
 refine wc_seq' (subc (bodyOf Tryz.prog 16) [1,1,0,0]) (subc (bodyOf Tryz.prog 16) [1,1,0,1]) (by kernel_rfl) ?_
 refine wc_ev [] .normal h [(4,(vI 0))] ?_
 refine wc_block' 0 (subc (bodyOf Tryz.prog 16) [1,1,0,1,0]) (by kernel_rfl) ?_
 refine wc_loop' (subc (bodyOf Tryz.prog 16) [1,1,0,1,0,0]) (by kernel_rfl) (fun n' a' h'=>∃ (k:Int) (out:List EffM) (oa:Option Addr) (oc:Nat) (g0:Nat→Value),a'={ tmps:=#[(vP t 0),vZ,(vL none 0 0),(vL oa out.length oc),(vI k),(g0 5),(g0 6),(g0 7),(g0 8),(g0 9),(g0 10),(g0 11),(g0 12),(g0 13),(g0 14),(g0 15),(g0 16),(g0 17),(g0 18),(g0 19),(g0 20),(g0 21),(g0 22),vZ],defers:=[] }∧Ext h h'∧n'=ms.length - k.toNat∧(0≤k∧k≤(ms.length:Nat))∧out=((opnT ((plT ms).take k.toNat)).map (fun p=>(⟨p.1,p.2.ix,phS p.2.st⟩:EffM)))∧(∀ zz,blk (vL oa out.length oc) zz→h.size≤zz)∧OwnAt h' 33 effc out (vL oa out.length oc)) ?_ (ms.length - (0:Int).toNat) ⟨0,[],none,0,(fun i=>([vU,vU,vU,vU,vU,vZ,vZ,vZ,vZ,vZ,vZ,vZ,vZ,vZ,vZ,vZ,vZ,vZ,vZ,vZ,vZ,vZ,vZ]:List Value).getD i undef),by as_aux_lemma=>kernel_rfl,(Ext.refl h),rfl,by omega,rfl,fun zz hz=>hz.elim,.inl ⟨rfl,rfl⟩⟩
 rintro n' _ h2 ⟨k,out,oa,oc,g0,rfl,x3,m4,i5,i6,i7,p8⟩
 have lo1:out.length≤64:=by have e9:=congrArg List.length i6; have:=opn_lens (fun p=>(⟨p.1,p.2.ix,phS p.2.st⟩:EffM)) (plT ms) k.toNat; omega
 by_cases c9:((k):Int) < ((ms.length:Nat))
 ·obtain ⟨i10,v11,e12,l13,g14⟩:=list_at ms (e:=(k)) (by omega) (by omega)
  obtain ⟨cz15,fz16⟩:=ok.ixS g14
  have dz17:=defB_of (chkS_zero cz15).1
  have iz18:=ok.ids _ (plT_mem (List.mem_of_getElem? g14))
  obtain ⟨_,h19,s20,rfl,x21⟩:=ropen_r h2 (T.keep fun b r _ q=>x3 b r q) ok e12 g14
  have p22:=p8.keep fun b r _ q=>x21 b r q
  have x23:=x3.trans x21
  by_cases c24:((v11.2.1.st):Int) < 4
  ·obtain ⟨_,h25,s26,rfl,x27⟩:=rnext_r h19 (T.keep fun b r _ q=>x23 b r q) ok e12 g14 c24
   have p28:=p22.keep fun b r _ q=>x27 b r q
   have x29:=x23.trans x27
   obtain ⟨b30,eb31⟩:∃ zq,zq=h25.size:=⟨_,rfl⟩
   obtain ⟨h32,e33⟩:∃ zq,zq=h25.push (.cells #[(vI (v11.1)),(vI (v11.2.1.ix)),(vI (phS v11.2.1.st))] 33 (0,0)):=⟨_,rfl⟩
   have f34:=push_new e33
   rw [← eb31] at f34
   have x35:Ext h25 h32:=by rw [e33]; exact Ext.push _ _
   have o36:h.size≤b30:=by have:=x29.size; omega
   have p37:=p28.keep fun b r _ q=>x35 b r q
   have x38:=x29.trans x35
   obtain ⟨w39,h40,e41,p42,c43,n44,z45⟩:=own_append und42 sizeb33 zero33 rfl (by decide) effc_size (x:=(EffM.mk (v11.1) (v11.2.1.ix) (phS v11.2.1.st))) p37 f34 rfl (by omega) (by unfold maxLen; omega)
   obtain ⟨a46,c47,rfl⟩:=(p42.slice effc_size).len
   have z48:h.size≤h32.size:=x38.size
   have x49:Ext h _:=(Chg.then (O:=fun _=>False) (Chg.ext x38) c43 (fun b hb=>.inr (i7 b hb))).toExt'
   have o50:∀ zz,blk (Value.slice a46 ((out++[(EffM.mk (v11.1) (v11.2.1.ix) (phS v11.2.1.st))]).length) (c47)) zz→h.size≤zz:=fun zz hz=>by have:=n44 zz hz; have:=z48; omega
   refine wc_ev [evC 3 4 0 agg94 (x3 _ _ T.row),ltT 3 6 3 c9,evFt 5 2 c24 s20,evF 6 3 s26,evS 6 4 1 eb31 e33,evP 6 5 e41,evV 4 1 (vI ((k) + 1)) (show binA Tryz.prog .add 3 (vI k) (vI 1)=some (vI ((k) + 1)) from add_i64 (by omega) (by omega))] .normal h40 [(5,(vI k)),(6,(vP t 0)),(7,(vP t 0)),(8,(vP t 0)),(9,(vL ea ms.length ec)),(10,(vI ((ms.length:Nat)))),(11,(vB true)),(14,(vP t 0)),(15,(vI k)),(16,(vB true)),(17,(vL oa out.length oc)),(18,(vP t 0)),(19,(vI k)),(20,(vA #[(vI v11.1),(vI v11.2.1.ix),(vI (phS v11.2.1.st))])),(21,(vL (some ⟨b30,0,none⟩) 1 1)),(22,(Value.slice a46 ((out++[(EffM.mk (v11.1) (v11.2.1.ix) (phS v11.2.1.st))]).length) (c47))),(3,(Value.slice a46 ((out++[(EffM.mk (v11.1) (v11.2.1.ix) (phS v11.2.1.st))]).length) (c47))),(12,(vI k)),(13,(vI ((k) + 1))),(4,(vI ((k) + 1)))] ?_
   exact ⟨ms.length - (k + 1).toNat,by omega,⟨k + 1,(out++[(EffM.mk (v11.1) (v11.2.1.ix) (phS v11.2.1.st))]),a46,c47,(fun i=>([vU,vU,vU,vU,vU,(vI k),(vP t 0),(vP t 0),(vP t 0),(vL ea ms.length ec),(vI ((ms.length:Nat))),(vB true),(vI k),(vI ((k) + 1)),(vP t 0),(vI k),(vB true),(vL oa out.length oc),(vP t 0),(vI k),(vA #[(vI v11.1),(vI v11.2.1.ix),(vI (phS v11.2.1.st))]),(vL (some ⟨b30,0,none⟩) 1 1),(Value.slice a46 ((out++[(EffM.mk (v11.1) (v11.2.1.ix) (phS v11.2.1.st))]).length) (c47))]:List Value).getD i undef),by as_aux_lemma=>kernel_rfl,x49,rfl,by omega,by rw [show (k + 1).toNat=i10 + 1 by omega,opn_take_yes (plT_ix (k:=v11.1) (c:=v11.2) g14) c24,List.map_append,show i10=k.toNat by omega,← i6]; rfl,o50,p42⟩⟩
  ·refine wc_ev [evC 3 4 0 agg94 (x3 _ _ T.row),ltT 3 6 3 c9,evFf 5 2 c24 s20,evV 4 1 (vI ((k) + 1)) (show binA Tryz.prog .add 3 (vI k) (vI 1)=some (vI ((k) + 1)) from add_i64 (by omega) (by omega))] .normal h19 [(5,(vI k)),(6,(vP t 0)),(7,(vP t 0)),(8,(vP t 0)),(9,(vL ea ms.length ec)),(10,(vI ((ms.length:Nat)))),(11,(vB true)),(14,(vP t 0)),(15,(vI k)),(16,(vB false)),(12,(vI k)),(13,(vI ((k) + 1))),(4,(vI ((k) + 1)))] ?_
   exact ⟨ms.length - (k + 1).toNat,by omega,⟨k + 1,out,oa,oc,(fun i=>([vU,vU,vU,vU,vU,(vI k),(vP t 0),(vP t 0),(vP t 0),(vL ea ms.length ec),(vI ((ms.length:Nat))),(vB true),(vI k),(vI ((k) + 1)),(vP t 0),(vI k),(vB false),(g0 17),(g0 18),(g0 19),(g0 20),(g0 21),(g0 22)]:List Value).getD i undef),by as_aux_lemma=>kernel_rfl,x23,rfl,by omega,by rw [show (k + 1).toNat=i10 + 1 by omega,opn_take_no (plT_ix (k:=v11.1) (c:=v11.2) g14) c24,show i10=k.toNat by omega]; exact i6,i7,p22⟩⟩
 ·refine wc_ev [evC 3 4 0 agg94 (x3 _ _ T.row),ltF 3 6 3 c9] (.exit 0) h2 [(5,(vI k)),(6,(vP t 0)),(7,(vP t 0)),(8,(vP t 0)),(9,(vL ea ms.length ec)),(10,(vI ((ms.length:Nat)))),(11,(vB false))] ?_
  refine wc_ev [] .ret h2 [(23,(vL oa out.length oc)),(2,(vL oa out.length oc))] ?_
  have e9:out=nxtL (plT ms):=by have e8:=i6; rw [List.take_of_length_le (by omega)] at e8; exact e8
  exact end_ev [] (vL oa out.length oc) (hK _ _ (⟨oa,oc,by rw [← e9],by rw [← e9]; exact p8,x3,by intro b hb; exact i7 b hb⟩))
theorem rNext_ok (h:Heap) {O:Nat→Prop} {t:Nat} {m:Tab} (hT:RfAt 96 105 h O t m) (ok:WfT m) :WCall Tryz.prog 16 #[(vP t 0)] h (fun v h1=>∃ oa oc,v=.slice oa (nxtL m).length oc∧OwnAt h1 33 effc (nxtL m) v∧Ext h h1∧∀ b,blk v b→h.size≤b):=by
 obtain ⟨ms,ea,ec,rfl,T⟩:=hT
 exact rNext_ok_r h T ok 
set_option maxRecDepth 10000 in
set_option maxHeartbeats 4000000 in
theorem rquiet_ok_r (h:Heap) {O:Nat→Prop} {t:Nat} {ms:TabS} {ea:Option Addr} {ec:Nat} (T:RfRow 96 105 h O t ms ea ec) (ok:WfT (plT ms)):WCall Tryz.prog 72 #[(vP t 0)] h (fun v h1=>v=.bool (quietT (plT ms))∧Ext h h1):=by
 have hpl:=plT_len ms
 have hfew:=ok.few
 have hT':RfAt 96 105 h O t (plT ms):=⟨ms,ea,ec,rfl,T⟩
 refine wcall_by fun K hK=>?_
 refine wcall_at { tmps:=#[(vP t 0),vZ,vZ,vZ,vZ,vZ,vZ],defers:=[] } (by kernel_rfl) ?_
 obtain ⟨_,h2,s3,w4,c5,rfl,o6,x7,n8⟩:=rOpen_ok_r h (T.keep fun b r _ q=>(Ext.refl h) b r q) ok
 have x9:=(Ext.refl h).trans x7
 by_cases c10:((((opnL (plT ms)).length:Nat)):Int)=0
 ·refine wc_ev [evF 1 1 s3,eqT 1 3 3 c10] .ret h2 [(2,(vB false)),(3,(vP t 0)),(4,(Value.slice w4 ((opnL (plT ms)).length) (c5))),(5,(vI (((opnL (plT ms)).length:Nat)))),(6,(vB true)),(2,(vB true))] ?_
  exact end_ev [] (vB true) (hK _ _ (⟨by rw [show quietT (plT ms)=true from decide_eq_true (by omega)],x9⟩))
 ·refine wc_ev [evF 1 1 s3,eqF 1 3 3 c10] .ret h2 [(2,(vB false)),(3,(vP t 0)),(4,(Value.slice w4 ((opnL (plT ms)).length) (c5))),(5,(vI (((opnL (plT ms)).length:Nat)))),(6,(vB false)),(2,(vB false))] ?_
  exact end_ev [] (vB false) (hK _ _ (⟨by rw [show quietT (plT ms)=false from decide_eq_false (by omega)],x9⟩))
theorem rquiet_ok (h:Heap) {O:Nat→Prop} {t:Nat} {m:Tab} (hT:RfAt 96 105 h O t m) (ok:WfT m) :WCall Tryz.prog 72 #[(vP t 0)] h (fun v h1=>v=.bool (quietT m)∧Ext h h1):=by
 obtain ⟨ms,ea,ec,rfl,T⟩:=hT
 exact rquiet_ok_r h T ok 
set_option maxHeartbeats 4000000 in
theorem rnew0_ok (h:Heap) :WCall Tryz.prog 13 #[] h (fun v h1=>∃ b,v=.pointer (some ⟨b,0,none⟩)∧h1[b]?=some (.cells #[.slice none 0 0] 96 (0,0))∧Ext h h1∧h.size≤b):=by
 obtain ⟨b1,eb2⟩:∃ zq,zq=h.size:=⟨_,rfl⟩
 obtain ⟨h3,e4⟩:∃ zq,zq=h.push (.cells #[(Value.slice none 0 0)] 96 (0,0)):=⟨_,rfl⟩
 have f5:=push_new e4
 rw [← eb2] at f5
 have x6:Ext h h3:=by rw [e4]; exact Ext.push _ _
 have o7:h.size≤b1:=by have:=(Ext.refl h).size; omega
 have x8:=(Ext.refl h).trans x6
 exact hCall_ev [evA 1 1 eb2 e4] [] (vP b1 0) h3 ⟨_,rfl,f5,x8,o7⟩
set_option maxRecDepth 10000 in
set_option maxHeartbeats 4000000 in
theorem rcopy_ok_r (h:Heap) {O:Nat→Prop} {t:Nat} {ms:TabS} {ea:Option Addr} {ec:Nat} (T:RfRow 96 105 h O t ms ea ec) (ok:WfT (plT ms)):WCall Tryz.prog 25 #[(vP t 0)] h (fun v h1=>∃ b O,v=.pointer (some ⟨b,0,none⟩)∧RfAt 96 105 h1 O b (plT ms)∧Ext h h1∧∀ z,O z→h.size≤z):=by
 have hpl:=plT_len ms
 have hfew:=ok.few
 have hT':RfAt 96 105 h O t (plT ms):=⟨ms,ea,ec,rfl,T⟩
 refine wcall_by fun K hK=>?_
 refine wcall_at { tmps:=#[(vP t 0),vZ,vZ,vZ,vZ,vZ,vZ,vZ,vZ,vZ,vZ,vZ,vZ,vZ,vZ,vZ,vZ,vZ,vZ,vZ,vZ,vZ,vZ,vZ,vZ,vZ,vZ,vZ,vZ,vZ,vZ,vZ,vZ,vZ,vZ,vZ,vZ,vZ,vZ,vZ,vZ,vZ,vZ],defers:=[] } (by kernel_rfl) ?_
 refine wc_seq' (subc (bodyOf Tryz.prog 25) [0]) (subc (bodyOf Tryz.prog 25) [1]) (by kernel_rfl) ?_
 refine wc_ev [] .normal h [(2,vN)] ?_
 refine wc_seq' (subc (bodyOf Tryz.prog 25) [1,0]) (subc (bodyOf Tryz.prog 25) [1,1]) (by kernel_rfl) ?_
 obtain ⟨_,h2,s3,b4,rfl,f5,x6,o7⟩:=rnew0_ok h
 have oo8:h.size≤b4:=by have:=(Ext.refl h).size; omega
 have x9:=(Ext.refl h).trans x6
 refine wc_ev [evF 1 0 s3] .normal h2 [(5,(vP b4 0)),(3,(vP b4 0))] ?_
 refine wc_seq' (subc (bodyOf Tryz.prog 25) [1,1,0]) (subc (bodyOf Tryz.prog 25) [1,1,1]) (by kernel_rfl) ?_
 refine wc_seq' (subc (bodyOf Tryz.prog 25) [1,1,0,0]) (subc (bodyOf Tryz.prog 25) [1,1,0,1]) (by kernel_rfl) ?_
 refine wc_ev [] .normal h2 [(4,(vI 0))] ?_
 refine wc_block' 0 (subc (bodyOf Tryz.prog 25) [1,1,0,1,0]) (by kernel_rfl) ?_
 refine wc_loop' (subc (bodyOf Tryz.prog 25) [1,1,0,1,0,0]) (by kernel_rfl) (fun n' a' h'=>∃ (k:Int) (out:TabS) (oa:Option Addr) (oc:Nat) (g0:Nat→Value),a'={ tmps:=#[(vP t 0),vZ,vN,(vP b4 0),(vI k),(vP b4 0),(g0 6),(g0 7),(g0 8),(g0 9),(g0 10),(g0 11),(g0 12),(g0 13),(g0 14),(g0 15),(g0 16),(g0 17),(g0 18),(g0 19),(g0 20),(g0 21),(g0 22),(g0 23),(g0 24),(g0 25),(g0 26),(g0 27),(g0 28),(g0 29),(g0 30),(g0 31),(g0 32),(g0 33),(g0 34),(g0 35),(g0 36),(g0 37),(g0 38),(g0 39),(g0 40),(g0 41),vZ],defers:=[] }∧Ext h h'∧n'=ms.length - k.toNat∧h'[b4]?=some (.cells #[(vL oa out.length oc)] 96 (0,0))∧(0≤k∧k≤(ms.length:Nat))∧plT out=(plT ms).take k.toNat∧(∀ zz,blk (vL oa out.length oc) zz→h.size≤zz)∧(∀ zz,lstF out zz→h.size≤zz)∧OwnAt h' 105 entc out (vL oa out.length oc)∧LstAt h' out) ?_ (ms.length - (0:Int).toNat) ⟨0,[],none,0,(fun i=>([vU,vU,vU,vU,vU,vU,vZ,vZ,vZ,vZ,vZ,vZ,vZ,vZ,vZ,vZ,vZ,vZ,vZ,vZ,vZ,vZ,vZ,vZ,vZ,vZ,vZ,vZ,vZ,vZ,vZ,vZ,vZ,vZ,vZ,vZ,vZ,vZ,vZ,vZ,vZ,vZ]:List Value).getD i undef),by as_aux_lemma=>kernel_rfl,x9,rfl,f5,by omega,rfl,fun zz hz=>hz.elim,fun zz ⟨p,hp,_⟩=>absurd hp (by simp),.inl ⟨rfl,rfl⟩,(fun p hp=>absurd hp (by simp))⟩
 rintro n' _ h10 ⟨k,out,oa,oc,g0,rfl,x11,m12,f13,i14,i15,i17,i18,p19,p20⟩
 have lo1:out.length≤64:=by have e9:=congrArg List.length i15; rw [plT_len,List.length_take] at e9; omega
 by_cases c21:((k):Int) < ((ms.length:Nat))
 ·obtain ⟨i22,v23,e24,l25,g26⟩:=list_at ms (e:=(k)) (by omega) (by first | omega | (simp only [List.length_set,List.length_append,List.length_singleton]; omega))
  obtain ⟨b27,o28,k29,q30,a31⟩:=(T.ents.slice entc_size).at entc_size g26
  obtain ⟨cz32,fz33⟩:=ok.ixS g26
  have dz34:=defB_of (chkS_zero cz32).1
  have iz35:=ok.ids _ (plT_mem (List.mem_of_getElem? g26))
  obtain ⟨b36,o37,k38,q39,a40⟩:=(T.ents.slice entc_size).at entc_size g26
  obtain ⟨cz41,fz42⟩:=ok.ixS g26
  have dz43:=defB_of (chkS_zero cz41).1
  have iz44:=ok.ids _ (plT_mem (List.mem_of_getElem? g26))
  obtain ⟨_,h45,s46,w47,c48,rfl,o49,x50,b51⟩:=rcopys_ok h10 v23.2.1 _ _ ((T.lists.keep fun b r _ q=>x11 b r q).ix g26) (by omega)
  have f52:=x50 _ _ f13
  have p53:=p19.keep fun b r _ q=>x50 b r q
  have p54:=p20.keep fun b r _ q=>x50 b r q
  have x55:=x11.trans x50
  have z56:h.size≤h10.size:=x11.size
  have n57:∀ zz,blk (Value.slice w47 (v23.2.1.d.xs.length) (c48)) zz→¬ zz=b4:=fun zz hz ez=>by have:=b51 zz hz; have:=row_lt f13; omega
  have n58:∀ zz,blk (Value.slice w47 (v23.2.1.d.xs.length) (c48)) zz→¬ (blk (Value.slice oa (out.length) (oc))) zz:=fun zz hz ez=>by have:=b51 zz hz; have:=p19.blk_lt ez; omega
  have o59:∀ zz,blk (Value.slice w47 (v23.2.1.d.xs.length) (c48)) zz→h.size≤zz:=fun zz hz=>by have:=b51 zz hz; omega
  obtain ⟨b60,eb61⟩:∃ zq,zq=h45.size:=⟨_,rfl⟩
  obtain ⟨h62,e63⟩:∃ zq,zq=h45.push (.cells #[(vI (v23.1)),(vS v23.2.1.d.name),(vI (v23.2.1.d.rt)),(vI (v23.2.1.d.dl)),(Value.slice w47 (v23.2.1.d.xs.length) (c48)),(vI (v23.2.1.st)),(vI (v23.2.1.ix)),(vB v23.2.1.cn),(vI (v23.2.1.tr)),(vI (v23.2.1.bg)),(vI (v23.2.1.er))] 105 (0,0)):=⟨_,rfl⟩
  have f65:=push_new e63
  rw [← eb61] at f65
  have x66:Ext h45 h62:=by rw [e63]; exact Ext.push _ _
  have o67:h.size≤b60:=by have:=x55.size; omega
  have f68:=x66 _ _ f52
  have p69:=p53.keep fun b r _ q=>x66 b r q
  have p70:=p54.keep fun b r _ q=>x66 b r q
  have p71:=o49.keep fun b r _ q=>x66 b r q
  have x72:=x55.trans x66
  obtain ⟨w73,h74,e75,p76,c77,n78,z79⟩:=own_append und94 sizeb105 zero105 rfl (by decide) entc_size (x:=((v23.1,(v23.2.1,w47,c48)):Int × SagA)) p69 f65 rfl (by omega) (by unfold maxLen; omega)
  obtain ⟨a80,c81,rfl⟩:=(p76.slice entc_size).len
  have z82:h.size≤h62.size:=x72.size
  have x83:Ext h _:=(Chg.then (O:=fun _=>False) (Chg.ext x72) c77 (fun b hb=>.inr (i17 b hb))).toExt'
  have f84:=c77.same _ _ f68 (fun hb=>p69.ne f68 (by decide) hb rfl)
  have p85:=p70.keep fun b r hb q=>c77.same b r q ((LstAt.offO p70 p69 (by decide)) b hb)
  have p86:=p71.keep fun b r hb q=>c77.same b r q (n58 b hb)
  have n87:∀ zz,blk (Value.slice a80 ((out++[((v23.1,(v23.2.1,w47,c48)):Int × SagA)]).length) (c81)) zz→¬ zz=b4:=fun zz hz ez=>by have:=n78 zz hz; have:=row_lt f68; omega
  have o88:∀ zz,blk (Value.slice a80 ((out++[((v23.1,(v23.2.1,w47,c48)):Int × SagA)]).length) (c81)) zz→h.size≤zz:=fun zz hz=>by have:=n78 zz hz; have:=z82; omega
  obtain ⟨h89,e90⟩:∃ zq,zq=h74.setIfInBounds b4 (.cells #[(Value.slice a80 ((out++[((v23.1,(v23.2.1,w47,c48)):Int × SagA)]).length) (c81))] 96 (0,0)):=⟨_,rfl⟩
  have f91:=set_same e90 f84
  have p92:=p85.keep fun b r hb q=>(Chg.set e90).same b r q ((LstAt.neO p85 f84 (by decide)) b hb)
  have p93:=p86.keep fun b r hb q=>(Chg.set e90).same b r q (n57 b hb)
  have p94:=p76.keep fun b r hb q=>(Chg.set e90).same b r q (n87 b hb)
  have x95:=Ext.setNew x83 e90 oo8
  refine wc_ev [evC 3 4 0 agg94 (x11 _ _ T.row),ltT 3 6 3 c21,evC 5 4 0 agg94 f13,evC 5 8 0 agg94 (x11 _ _ T.row),evV 5 10 (vP b27 o28) (show indexAddrA Tryz.prog 94 (vL ea ms.length ec) (vI k)=some (vP b27 o28) from a31 und94 size105 e24),evV 5 12 (vI v23.1) (show loadT Tryz.prog h10 3 (vP b27 o28)=some (vI v23.1) from (k29.keep fun b r _ q=>x11 b r q).cell (j:=0) agg3 rfl),evC 5 16 0 agg94 (x11 _ _ T.row),evV 5 18 (vP b36 o37) (show indexAddrA Tryz.prog 94 (vL ea ms.length ec) (vI k)=some (vP b36 o37) from a40 und94 size105 e24),evV 5 20 (vA #[(vS v23.2.1.d.name),(vI v23.2.1.d.rt),(vI v23.2.1.d.dl),(vL v23.2.2.1 v23.2.1.d.xs.length v23.2.2.2),(vI v23.2.1.st),(vI v23.2.1.ix),(vB v23.2.1.cn),(vI v23.2.1.tr),(vI v23.2.1.bg),(vI v23.2.1.er)]) (show loadT Tryz.prog h10 51 (vP b36 (o37 + 1))=some (vA #[(vS v23.2.1.d.name),(vI v23.2.1.d.rt),(vI v23.2.1.d.dl),(vL v23.2.2.1 v23.2.1.d.xs.length v23.2.2.2),(vI v23.2.1.st),(vI v23.2.1.ix),(vB v23.2.1.cn),(vI v23.2.1.tr),(vI v23.2.1.bg),(vI v23.2.1.er)]) from (k38.keep fun b r _ q=>x11 b r q).agg (j:=1) agg51 size51 (show 1 + 10≤11 by decide) (by kernel_rfl)),evF 5 21 s46,evV 99 0 undef (show loadT Tryz.prog h45 3 (vP b27 o28)=some (vI v23.1) from (k29.keep fun b r _ q=>x55 b r q).cell (j:=0) agg3 rfl),evC 99 0 0 agg94 (x55 _ _ T.row),evC 99 0 0 agg94 f52,evS 5 23 1 eb61 e63,evP 5 24 e75,evT 5 27 0 size94 f84 e90,evV 4 1 (vI ((k) + 1)) (show binA Tryz.prog .add 3 (vI k) (vI 1)=some (vI ((k) + 1)) from add_i64 (by omega) (by omega))] .normal h89 [(6,(vI k)),(7,(vP t 0)),(8,(vP t 0)),(9,(vP t 0)),(10,(vL ea ms.length ec)),(11,(vI ((ms.length:Nat)))),(12,(vB true)),(15,(vP b4 0)),(16,(vP b4 0)),(17,(vP b4 0)),(18,(vP b4 0)),(19,(vL oa out.length oc)),(20,(vP t 0)),(21,(vP t 0)),(22,(vP t 0)),(23,(vL ea ms.length ec)),(24,(vI k)),(25,(vP b27 o28)),(26,(vP b27 o28)),(27,(vI v23.1)),(28,(vP t 0)),(29,(vP t 0)),(30,(vP t 0)),(31,(vL ea ms.length ec)),(32,(vI k)),(33,(vP b36 o37)),(34,(vP b36 (o37 + 1))),(35,(vA #[(vS v23.2.1.d.name),(vI v23.2.1.d.rt),(vI v23.2.1.d.dl),(vL v23.2.2.1 v23.2.1.d.xs.length v23.2.2.2),(vI v23.2.1.st),(vI v23.2.1.ix),(vB v23.2.1.cn),(vI v23.2.1.tr),(vI v23.2.1.bg),(vI v23.2.1.er)])),(36,(vA #[(vS v23.2.1.d.name),(vI v23.2.1.d.rt),(vI v23.2.1.d.dl),(vL w47 v23.2.1.d.xs.length c48),(vI v23.2.1.st),(vI v23.2.1.ix),(vB v23.2.1.cn),(vI v23.2.1.tr),(vI v23.2.1.bg),(vI v23.2.1.er)])),(37,(vA #[(vI v23.1),(vS v23.2.1.d.name),(vI v23.2.1.d.rt),(vI v23.2.1.d.dl),(vL w47 v23.2.1.d.xs.length c48),(vI v23.2.1.st),(vI v23.2.1.ix),(vB v23.2.1.cn),(vI v23.2.1.tr),(vI v23.2.1.bg),(vI v23.2.1.er)])),(38,(vL (some ⟨b60,0,none⟩) 1 1)),(39,(Value.slice a80 ((out++[((v23.1,(v23.2.1,w47,c48)):Int × SagA)]).length) (c81))),(40,(vP b4 0)),(41,(vP b4 0)),(13,(vI k)),(14,(vI ((k) + 1))),(4,(vI ((k) + 1)))] ?_
  exact ⟨ms.length - (k + 1).toNat,by omega,⟨k + 1,(out++[((v23.1,(v23.2.1,w47,c48)):Int × SagA)]),a80,c81,(fun i=>([vU,vU,vU,vU,vU,vU,(vI k),(vP t 0),(vP t 0),(vP t 0),(vL ea ms.length ec),(vI ((ms.length:Nat))),(vB true),(vI k),(vI ((k) + 1)),(vP b4 0),(vP b4 0),(vP b4 0),(vP b4 0),(vL oa out.length oc),(vP t 0),(vP t 0),(vP t 0),(vL ea ms.length ec),(vI k),(vP b27 o28),(vP b27 o28),(vI v23.1),(vP t 0),(vP t 0),(vP t 0),(vL ea ms.length ec),(vI k),(vP b36 o37),(vP b36 (o37 + 1)),(vA #[(vS v23.2.1.d.name),(vI v23.2.1.d.rt),(vI v23.2.1.d.dl),(vL v23.2.2.1 v23.2.1.d.xs.length v23.2.2.2),(vI v23.2.1.st),(vI v23.2.1.ix),(vB v23.2.1.cn),(vI v23.2.1.tr),(vI v23.2.1.bg),(vI v23.2.1.er)]),(vA #[(vS v23.2.1.d.name),(vI v23.2.1.d.rt),(vI v23.2.1.d.dl),(vL w47 v23.2.1.d.xs.length c48),(vI v23.2.1.st),(vI v23.2.1.ix),(vB v23.2.1.cn),(vI v23.2.1.tr),(vI v23.2.1.bg),(vI v23.2.1.er)]),(vA #[(vI v23.1),(vS v23.2.1.d.name),(vI v23.2.1.d.rt),(vI v23.2.1.d.dl),(vL w47 v23.2.1.d.xs.length c48),(vI v23.2.1.st),(vI v23.2.1.ix),(vB v23.2.1.cn),(vI v23.2.1.tr),(vI v23.2.1.bg),(vI v23.2.1.er)]),(vL (some ⟨b60,0,none⟩) 1 1),(Value.slice a80 ((out++[((v23.1,(v23.2.1,w47,c48)):Int × SagA)]).length) (c81)),(vP b4 0),(vP b4 0)]:List Value).getD i undef),by as_aux_lemma=>kernel_rfl,x95,rfl,f91,by omega,by rw [show (k + 1).toNat=i22 + 1 by omega,take_next (plT_ix (k:=v23.1) (c:=v23.2) g26),show i22=k.toNat by omega,← i15]; exact plT_snoc _ _ _,o88,fun zz hz=>(lstF_snoc hz).elim (i18 zz) (o59 zz),p94,(LstAt.snoc p92 (q:=v23.1) (y:=(v23.2.1,w47,c48)) p93)⟩⟩
 ·refine wc_ev [evC 3 4 0 agg94 (x11 _ _ T.row),ltF 3 6 3 c21] (.exit 0) h10 [(6,(vI k)),(7,(vP t 0)),(8,(vP t 0)),(9,(vP t 0)),(10,(vL ea ms.length ec)),(11,(vI ((ms.length:Nat)))),(12,(vB false))] ?_
  refine wc_ev [] .ret h10 [(42,(vP b4 0)),(2,(vP b4 0))] ?_
  have e9:plT out=plT ms:=by have e8:=i15; rw [List.take_of_length_le (by omega)] at e8; exact e8
  have r9:=rf_new (ms:=out) rfl f13 p19 p20
  rw [e9] at r9
  exact end_ev [] (vP b4 0) (hK _ _ (⟨b4,_,rfl,r9,x11,fun z hz=>hz.elim (fun w=>by have:=oo8; omega) (fun w=>w.elim (i17 z) (i18 z))⟩))
theorem rcopy_ok (h:Heap) {O:Nat→Prop} {t:Nat} {m:Tab} (hT:RfAt 96 105 h O t m) (ok:WfT m) :WCall Tryz.prog 25 #[(vP t 0)] h (fun v h1=>∃ b O,v=.pointer (some ⟨b,0,none⟩)∧RfAt 96 105 h1 O b m∧Ext h h1∧∀ z,O z→h.size≤z):=by
 obtain ⟨ms,ea,ec,rfl,T⟩:=hT
 exact rcopy_ok_r h T ok 
set_option maxHeartbeats 4000000 in
theorem turned_ok (h:Heap) (nm:ByteArray) (rt dl:Int) (sa:Option Addr) (ln cp:Nat) (st ix:Int) (cn:Bool) (tr bg er:Int):WCall Tryz.prog 23 #[(Value.agg #[(vS nm),(vI (rt)),(vI (dl)),(Value.slice sa (ln) (cp)),(vI (st)),(vI (ix)),(vB cn),(vI (tr)),(vI (bg)),(vI (er))])] h (fun v h1=>v=(Value.agg #[(vS nm),(vI (rt)),(vI (dl)),(Value.slice sa (ln) (cp)),(vI (st)),(vI (ix)),(vB cn),(vI (tr)),(vI (bg)),(vI (er))])∧Ext h h1):=by
 obtain ⟨b1,eb2⟩:∃ zq,zq=h.size:=⟨_,rfl⟩
 obtain ⟨h3,e4⟩:∃ zq,zq=h.push (.cells #[(vS nm),(vI (rt)),(vI (dl)),(Value.slice sa (ln) (cp)),(vI (st)),(vI (ix)),(vB cn),(vI (tr)),(vI (bg)),(vI (er))] 38 (0,0)):=⟨_,rfl⟩
 have f5:=push_new e4
 rw [← eb2] at f5
 have x6:Ext h h3:=by rw [e4]; exact Ext.push _ _
 have o7:h.size≤b1:=by have:=(Ext.refl h).size; omega
 have x8:=(Ext.refl h).trans x6
 obtain ⟨b9,eb10⟩:∃ zq,zq=h3.size:=⟨_,rfl⟩
 obtain ⟨h11,e12⟩:∃ zq,zq=h3.push (.cells #[(vS .empty),(vI 0),(vI 0),(Value.slice none 0 0),(vI 0),(vI 0),(vB false),(vI 0),(vI 0),(vI 0)] 51 (0,0)):=⟨_,rfl⟩
 have f13:=push_new e12
 rw [← eb10] at f13
 have x14:Ext h3 h11:=by rw [e12]; exact Ext.push _ _
 have o15:h.size≤b9:=by have:=x8.size; omega
 have f17:=x14 _ _ f5
 have x18:=x8.trans x14
 obtain ⟨h19,e20⟩:∃ zq,zq=h11.setIfInBounds b9 (.cells #[(vS nm),(vI (rt)),(vI (dl)),(Value.slice sa (ln) (cp)),(vI (st)),(vI (ix)),(vB cn),(vI (tr)),(vI (bg)),(vI (er))] 51 (0,0)):=⟨_,rfl⟩
 have f21:=set_same e20 f13
 have x22:=Ext.setNew x18 e20 o15
 exact hCall_ev [evA 0 0 eb2 e4,evA 0 1 eb10 e12,evL 1 1 0 agg31 size31 f17,evC 1 3 4 agg3 f17,evC 1 5 5 agg3 f17,evC 1 7 6 agg4 f17,evL 1 9 7 agg36 size36 f17,evC 1 11 9 agg34 f17,evUw 1 13 size51 f13 e20] [evLw 0 0 agg51 size51 f21] (vA #[(vS nm),(vI rt),(vI dl),(vL sa ln cp),(vI st),(vI ix),(vB cn),(vI tr),(vI bg),(vI er)]) h19 ⟨rfl,x22⟩
set_option maxRecDepth 10000 in
set_option maxHeartbeats 4000000 in
theorem shows_ok (h:Heap) {O1 O2:Nat→Prop} {t1 t2:Nat} {m:Tab} (ht1:TbAt 57 h O1 t1 m) (ht2:RfAt 96 105 h O2 t2 m) (ok:WfT m) (n:Int) (hg0:h[0]?=some (.cells #[(vI 0),(vI 1),(vI 3),(vI 2)] 128 (0,0))) (hg1:h[1]?=some (.cells #[Value.nilFunc,(Value.func (.func 178) #[] #[]),(Value.func (.func 179) #[] #[]),(Value.func (.func 180) #[] #[])] 130 (0,0))):WCall Tryz.prog 26 #[(vP t1 0),(vP t2 0),(vI (n))] h (fun v h1=>v=.bool true∧Ext h h1):=by
 refine wcall_by fun K hK=>?_
 refine wcall_at { tmps:=#[(vP t1 0),(vP t2 0),(vI n),vZ,vZ,vZ,vZ,vZ,vZ,vZ,vZ,vZ,vZ,vZ,vZ,vZ,vZ,vZ,vZ,vZ,vZ,vZ,vZ,vZ,vZ,vZ,vZ,vZ,vZ,vZ,vZ,vZ,vZ,vZ,vZ,vZ,vZ,vZ,vZ,vZ,vZ,vZ,vZ,vZ,vZ,vZ,vZ,vZ,vZ,vZ,vZ,vZ,vZ,vZ,vZ,vZ,vZ,vZ,vZ,vZ,vZ,vZ,vZ,vZ,vZ,vZ,vZ],defers:=[] } (by kernel_rfl) ?_
 obtain ⟨v1,h2,s3,p4,p5,x6⟩:=tget_ok h (ht1.keep fun b r _ q=>(Ext.refl h) b r q) ok (n)
 have x7:=(Ext.refl h).trans x6
 by_cases c8:((getE m (n)):Int)=0
 ·obtain ⟨w9,c10,p11,o12,n13⟩:=p5 c8
  have f14:=getE_zero c8
  have c15:=((ok).at f14).1
  obtain ⟨s16,e17⟩:∃ q,q=(getS m (n)):=⟨_,rfl⟩
  rw [← e17] at p11 o12 n13 c15 f14
  have:=defB_of (chkS_zero c15).1
  have z18:h.size≤h.size:=(Ext.refl h).size
  have o19:∀ zz,blk (Value.slice w9 (s16.d.xs.length) (c10)) zz→h.size≤zz:=fun zz hz=>by have:=n13 zz hz; omega
  obtain ⟨b20,eb21⟩:∃ zq,zq=h2.size:=⟨_,rfl⟩
  obtain ⟨h22,e23⟩:∃ zq,zq=h2.push (.cells #[(vS .empty),(vI 0),(vI 0),(Value.slice none 0 0),(vI 0),(vI 0),(vB false),(vI 0),(vI 0),(vI 0)] 38 (0,0)):=⟨_,rfl⟩
  have f24:=push_new e23
  rw [← eb21] at f24
  have n25:∀ zz,(blk (Value.slice w9 (s16.d.xs.length) (c10))) zz→¬ zz=b20:=fun zz hz ez=>by have:=o12.blk_lt hz; omega
  have x26:Ext h2 h22:=by rw [e23]; exact Ext.push _ _
  have o27:h.size≤b20:=by have:=x7.size; omega
  have p28:=o12.keep fun b r _ q=>x26 b r q
  have x29:=x7.trans x26
  obtain ⟨h30,e31⟩:∃ zq,zq=h22.setIfInBounds b20 (.cells #[(vS s16.d.name),(vI (s16.d.rt)),(vI (s16.d.dl)),(Value.slice w9 (s16.d.xs.length) (c10)),(vI (s16.st)),(vI (s16.ix)),(vB s16.cn),(vI (s16.tr)),(vI (s16.bg)),(vI (s16.er))] 38 (0,0)):=⟨_,rfl⟩
  have f33:=set_same e31 f24
  have p34:=p28.keep fun b r hb q=>(Chg.set e31).same b r q (n25 b hb)
  have x35:=Ext.setNew x29 e31 o27
  obtain ⟨v36,h37,s38,p39,p40,x41⟩:=rget_ok h30 (ht2.keep fun b r _ q=>x35 b r q) ok (n)
  have f42:=x41 _ _ f33
  have p43:=p34.keep fun b r _ q=>x41 b r q
  have x44:=x35.trans x41
  obtain ⟨w45,c46,p47,o48,n49⟩:=p40 c8
  rw [e17.symm] at p47 o48 n49
  have z50:h.size≤h30.size:=x35.size
  have o51:∀ zz,blk (Value.slice w45 (s16.d.xs.length) (c46)) zz→h.size≤zz:=fun zz hz=>by have:=n49 zz hz; omega
  obtain ⟨b52,eb53⟩:∃ zq,zq=h37.size:=⟨_,rfl⟩
  obtain ⟨h54,e55⟩:∃ zq,zq=h37.push (.cells #[(vS .empty),(vI 0),(vI 0),(Value.slice none 0 0),(vI 0),(vI 0),(vB false),(vI 0),(vI 0),(vI 0)] 51 (0,0)):=⟨_,rfl⟩
  have f56:=push_new e55
  rw [← eb53] at f56
  have n57:b52 ≠ b20:=by have:=row_lt f42; omega
  have n58:∀ zz,(blk (Value.slice w9 (s16.d.xs.length) (c10))) zz→¬ zz=b52:=fun zz hz ez=>by have:=p43.blk_lt hz; omega
  have n59:∀ zz,(blk (Value.slice w45 (s16.d.xs.length) (c46))) zz→¬ zz=b52:=fun zz hz ez=>by have:=o48.blk_lt hz; omega
  have x60:Ext h37 h54:=by rw [e55]; exact Ext.push _ _
  have o61:h.size≤b52:=by have:=x44.size; omega
  have f62:=x60 _ _ f42
  have p63:=p43.keep fun b r _ q=>x60 b r q
  have p64:=o48.keep fun b r _ q=>x60 b r q
  have x65:=x44.trans x60
  obtain ⟨h66,e67⟩:∃ zq,zq=h54.setIfInBounds b52 (.cells #[(vS s16.d.name),(vI (s16.d.rt)),(vI (s16.d.dl)),(Value.slice w45 (s16.d.xs.length) (c46)),(vI (s16.st)),(vI (s16.ix)),(vB s16.cn),(vI (s16.tr)),(vI (s16.bg)),(vI (s16.er))] 51 (0,0)):=⟨_,rfl⟩
  have f68:=set_same e67 f56
  have f69:=set_other e67 f62 n57
  have p70:=p63.keep fun b r hb q=>(Chg.set e67).same b r q (n58 b hb)
  have p71:=p64.keep fun b r hb q=>(Chg.set e67).same b r q (n59 b hb)
  have x72:=Ext.setNew x65 e67 o61
  obtain ⟨_,hh73,sn74,rfl,x75⟩:=turned_ok h66 s16.d.name (s16.d.rt) (s16.d.dl) w9 (s16.d.xs.length) (c10) (s16.st) (s16.ix) s16.cn (s16.tr) (s16.bg) (s16.er)
  have f76:=x75 _ _ f68
  have p77:=p70.keep fun b r _ q=>x75 b r q
  have p78:=p71.keep fun b r _ q=>x75 b r q
  have x79:=x72.trans x75
  obtain ⟨_,hh80,sn81,rfl,x82⟩:=same_ok hh73 s16 _ _ (OwnAt.lat p77 stepc_size (tsz_of size67)) (by omega) _ _ (OwnAt.lat p78 stepc_size (tsz_of size67))
  have x83:=x79.trans x82
  obtain ⟨_,h84,s85,w86,c87,rfl,o88,x89,n90⟩:=ids_ok hh80 (ht1.keep fun b r _ q=>x83 b r q) ok
  have z91:(idsL m).length≤64:=Nat.le_trans (Nat.le_of_eq (idsL_len _)) (ok).few
  have x92:=x83.trans x89
  have z93:h.size≤hh80.size:=x83.size
  have o94:∀ zz,blk (Value.slice w86 ((idsL m).length) (c87)) zz→h.size≤zz:=fun zz hz=>by have:=n90 zz hz; omega
  obtain ⟨_,h95,s96,w97,c98,rfl,o99,x100,n101⟩:=rids_ok h84 (ht2.keep fun b r _ q=>x92 b r q) ok
  have z102:(idsL m).length≤64:=Nat.le_trans (Nat.le_of_eq (idsL_len _)) (ok).few
  have p103:=o88.keep fun b r _ q=>x100 b r q
  have x104:=x92.trans x100
  have z105:h.size≤h84.size:=x92.size
  have o106:∀ zz,blk (Value.slice w97 ((idsL m).length) (c98)) zz→h.size≤zz:=fun zz hz=>by have:=n101 zz hz; omega
  obtain ⟨_,_,s107,rfl,rfl⟩:=eqI_ok h95 (idsL m) (idsL m) _ _ _ _ (p103.slice zc_size) (o99.slice zc_size) (by omega)
  obtain ⟨_,h108,s109,w110,c111,rfl,o112,x113,n114⟩:=open_ok h95 (ht1.keep fun b r _ q=>x104 b r q) ok (x104 _ _ hg0) (x104 _ _ hg1)
  have z115:(opnL m).length≤64:=Nat.le_trans (opnL_len _) (ok).few
  have x116:=x104.trans x113
  have z117:h.size≤h95.size:=x104.size
  have o118:∀ zz,blk (Value.slice w110 ((opnL m).length) (c111)) zz→h.size≤zz:=fun zz hz=>by have:=n114 zz hz; omega
  obtain ⟨_,h119,s120,w121,c122,rfl,o123,x124,n125⟩:=rOpen_ok h108 (ht2.keep fun b r _ q=>x116 b r q) ok
  have z126:(opnL m).length≤64:=Nat.le_trans (opnL_len _) (ok).few
  have p127:=o112.keep fun b r _ q=>x124 b r q
  have x128:=x116.trans x124
  have z129:h.size≤h108.size:=x116.size
  have o130:∀ zz,blk (Value.slice w121 ((opnL m).length) (c122)) zz→h.size≤zz:=fun zz hz=>by have:=n125 zz hz; omega
  obtain ⟨_,_,s131,rfl,rfl⟩:=eqI_ok h119 (opnL m) (opnL m) _ _ _ _ (p127.slice zc_size) (o123.slice zc_size) (by omega)
  obtain ⟨_,h132,s133,w134,c135,rfl,o136,x137,n138⟩:=tnext_ok h119 (ht1.keep fun b r _ q=>x128 b r q) ok (x128 _ _ hg0) (x128 _ _ hg1)
  have z139:(nxtL m).length≤64:=Nat.le_trans (nxtL_len _) (ok).few
  have x140:=x128.trans x137
  have z141:h.size≤h119.size:=x128.size
  have o142:∀ zz,blk (Value.slice w134 ((nxtL m).length) (c135)) zz→h.size≤zz:=fun zz hz=>by have:=n138 zz hz; omega
  obtain ⟨_,h143,s144,w145,c146,rfl,o147,x148,n149⟩:=rNext_ok h132 (ht2.keep fun b r _ q=>x140 b r q) ok
  have z150:(nxtL m).length≤64:=Nat.le_trans (nxtL_len _) (ok).few
  have p151:=o136.keep fun b r _ q=>x148 b r q
  have x152:=x140.trans x148
  have z153:h.size≤h132.size:=x140.size
  have o154:∀ zz,blk (Value.slice w145 ((nxtL m).length) (c146)) zz→h.size≤zz:=fun zz hz=>by have:=n149 zz hz; omega
  obtain ⟨_,_,s155,rfl,rfl⟩:=eqE_ok h143 (nxtL m) (nxtL m) _ _ _ _ (p151.slice effc_size) (o147.slice effc_size) (by omega)
  obtain ⟨_,h156,s157,rfl,x158⟩:=len_ok h143 (ht1.keep fun b r _ q=>x152 b r q) ok
  have x159:=x152.trans x158
  obtain ⟨_,h160,s161,rfl,x162⟩:=rlen_ok h156 (ht2.keep fun b r _ q=>x159 b r q) ok
  have x163:=x159.trans x162
  obtain ⟨_,h164,s165,rfl,x166⟩:=quiet_ok h160 (ht1.keep fun b r _ q=>x163 b r q) ok (x163 _ _ hg0) (x163 _ _ hg1)
  have x167:=x163.trans x166
  rcases Bool.eq_false_or_eq_true ((quietT m)) with c168 | c168
  ·have z169:(opnL m).length=0:=of_decide_eq_true c168
   obtain ⟨_,h170,s171,rfl,x172⟩:=rquiet_ok h164 (ht2.keep fun b r _ q=>x167 b r q) ok
   have x173:=x167.trans x172
   refine wc_ev [evFe 1 2 p11 s3,evA 1 6 eb21 e23,evUw 1 7 size38 f24 e31,evFe 2 2 p47 s38,evA 2 6 eb53 e55,evUw 2 7 size51 f56 e67,evLw 3 0 agg38 size38 f69,evLw 3 2 agg51 size51 f68,evF 3 1 sn74,evLw 99 0 agg51 size51 f76,evF 3 3 sn81,evF 3 11 s85,evF 3 13 s96,evFt 3 14 (Eq.refl _) s107,evF 3 18 s109,evF 3 20 s120,evFt 3 21 (Eq.refl _) s131,evF 3 25 s133,evF 3 27 s144,evFt 3 28 (Eq.refl _) s155,evF 3 32 s157,evF 3 34 s161,eqT 3 35 3 (Eq.refl (((m.length:Nat)):Int)),evFb 3 39 c168 s165,evFb 3 41 c168 s171] .ret h170 [(6,(vB false)),(12,(vP t1 0)),(13,(vI n)),(14,(vT #[(vA #[(vS s16.d.name),(vI s16.d.rt),(vI s16.d.dl),(vL w9 s16.d.xs.length c10),(vI s16.st),(vI s16.ix),(vB s16.cn),(vI s16.tr),(vI s16.bg),(vI s16.er)]),(vI 0)])),(11,(vT #[(vA #[(vS s16.d.name),(vI s16.d.rt),(vI s16.d.dl),(vL w9 s16.d.xs.length c10),(vI s16.st),(vI s16.ix),(vB s16.cn),(vI s16.tr),(vI s16.bg),(vI s16.er)]),(vI 0)])),(15,(vA #[(vS s16.d.name),(vI s16.d.rt),(vI s16.d.dl),(vL w9 s16.d.xs.length c10),(vI s16.st),(vI s16.ix),(vB s16.cn),(vI s16.tr),(vI s16.bg),(vI s16.er)])),(16,(vI 0)),(7,(vP b20 0)),(8,(vI 0)),(18,(vP t2 0)),(19,(vI n)),(20,(vT #[(vA #[(vS s16.d.name),(vI s16.d.rt),(vI s16.d.dl),(vL w45 s16.d.xs.length c46),(vI s16.st),(vI s16.ix),(vB s16.cn),(vI s16.tr),(vI s16.bg),(vI s16.er)]),(vI 0)])),(17,(vT #[(vA #[(vS s16.d.name),(vI s16.d.rt),(vI s16.d.dl),(vL w45 s16.d.xs.length c46),(vI s16.st),(vI s16.ix),(vB s16.cn),(vI s16.tr),(vI s16.bg),(vI s16.er)]),(vI 0)])),(21,(vA #[(vS s16.d.name),(vI s16.d.rt),(vI s16.d.dl),(vL w45 s16.d.xs.length c46),(vI s16.st),(vI s16.ix),(vB s16.cn),(vI s16.tr),(vI s16.bg),(vI s16.er)])),(22,(vI 0)),(9,(vP b52 0)),(10,(vI 0)),(23,(vA #[(vS s16.d.name),(vI s16.d.rt),(vI s16.d.dl),(vL w9 s16.d.xs.length c10),(vI s16.st),(vI s16.ix),(vB s16.cn),(vI s16.tr),(vI s16.bg),(vI s16.er)])),(25,(vA #[(vS s16.d.name),(vI s16.d.rt),(vI s16.d.dl),(vL w45 s16.d.xs.length c46),(vI s16.st),(vI s16.ix),(vB s16.cn),(vI s16.tr),(vI s16.bg),(vI s16.er)])),(24,(vA #[(vS s16.d.name),(vI s16.d.rt),(vI s16.d.dl),(vL w9 s16.d.xs.length c10),(vI s16.st),(vI s16.ix),(vB s16.cn),(vI s16.tr),(vI s16.bg),(vI s16.er)])),(26,(vB true)),(27,(vB true)),(28,(vI 0)),(29,(vI 0)),(30,(vB true)),(31,(vB true)),(32,(vB true)),(33,(vP t1 0)),(35,(vP t2 0)),(34,(vL w86 ((idsL m).length) c87)),(36,(vL w97 ((idsL m).length) c98)),(37,(vB true)),(38,(vB true)),(39,(vB true)),(40,(vP t1 0)),(42,(vP t2 0)),(41,(vL w110 ((opnL m).length) c111)),(43,(vL w121 ((opnL m).length) c122)),(44,(vB true)),(45,(vB true)),(46,(vB true)),(47,(vP t1 0)),(49,(vP t2 0)),(48,(vL w134 ((nxtL m).length) c135)),(50,(vL w145 ((nxtL m).length) c146)),(51,(vB true)),(52,(vB true)),(53,(vB true)),(54,(vP t1 0)),(56,(vP t2 0)),(55,(vI ((m.length:Nat)))),(57,(vI ((m.length:Nat)))),(58,(vB true)),(59,(vB true)),(60,(vB true)),(61,(vP t1 0)),(63,(vP t2 0)),(62,(vB true)),(64,(vB true)),(65,(vB true)),(66,(vB true)),(6,(vB true))] ?_
   exact end_ev [] (vB true) (hK _ _ (⟨rfl,x173⟩))
  ·have z174:¬ (opnL m).length=0:=of_decide_eq_false c168
   obtain ⟨_,h175,s176,rfl,x177⟩:=rquiet_ok h164 (ht2.keep fun b r _ q=>x167 b r q) ok
   have x178:=x167.trans x177
   refine wc_ev [evFe 1 2 p11 s3,evA 1 6 eb21 e23,evUw 1 7 size38 f24 e31,evFe 2 2 p47 s38,evA 2 6 eb53 e55,evUw 2 7 size51 f56 e67,evLw 3 0 agg38 size38 f69,evLw 3 2 agg51 size51 f68,evF 3 1 sn74,evLw 99 0 agg51 size51 f76,evF 3 3 sn81,evF 3 11 s85,evF 3 13 s96,evFt 3 14 (Eq.refl _) s107,evF 3 18 s109,evF 3 20 s120,evFt 3 21 (Eq.refl _) s131,evF 3 25 s133,evF 3 27 s144,evFt 3 28 (Eq.refl _) s155,evF 3 32 s157,evF 3 34 s161,eqT 3 35 3 (Eq.refl (((m.length:Nat)):Int)),evFb 3 39 c168 s165,evFb 3 41 c168 s176] .ret h175 [(6,(vB false)),(12,(vP t1 0)),(13,(vI n)),(14,(vT #[(vA #[(vS s16.d.name),(vI s16.d.rt),(vI s16.d.dl),(vL w9 s16.d.xs.length c10),(vI s16.st),(vI s16.ix),(vB s16.cn),(vI s16.tr),(vI s16.bg),(vI s16.er)]),(vI 0)])),(11,(vT #[(vA #[(vS s16.d.name),(vI s16.d.rt),(vI s16.d.dl),(vL w9 s16.d.xs.length c10),(vI s16.st),(vI s16.ix),(vB s16.cn),(vI s16.tr),(vI s16.bg),(vI s16.er)]),(vI 0)])),(15,(vA #[(vS s16.d.name),(vI s16.d.rt),(vI s16.d.dl),(vL w9 s16.d.xs.length c10),(vI s16.st),(vI s16.ix),(vB s16.cn),(vI s16.tr),(vI s16.bg),(vI s16.er)])),(16,(vI 0)),(7,(vP b20 0)),(8,(vI 0)),(18,(vP t2 0)),(19,(vI n)),(20,(vT #[(vA #[(vS s16.d.name),(vI s16.d.rt),(vI s16.d.dl),(vL w45 s16.d.xs.length c46),(vI s16.st),(vI s16.ix),(vB s16.cn),(vI s16.tr),(vI s16.bg),(vI s16.er)]),(vI 0)])),(17,(vT #[(vA #[(vS s16.d.name),(vI s16.d.rt),(vI s16.d.dl),(vL w45 s16.d.xs.length c46),(vI s16.st),(vI s16.ix),(vB s16.cn),(vI s16.tr),(vI s16.bg),(vI s16.er)]),(vI 0)])),(21,(vA #[(vS s16.d.name),(vI s16.d.rt),(vI s16.d.dl),(vL w45 s16.d.xs.length c46),(vI s16.st),(vI s16.ix),(vB s16.cn),(vI s16.tr),(vI s16.bg),(vI s16.er)])),(22,(vI 0)),(9,(vP b52 0)),(10,(vI 0)),(23,(vA #[(vS s16.d.name),(vI s16.d.rt),(vI s16.d.dl),(vL w9 s16.d.xs.length c10),(vI s16.st),(vI s16.ix),(vB s16.cn),(vI s16.tr),(vI s16.bg),(vI s16.er)])),(25,(vA #[(vS s16.d.name),(vI s16.d.rt),(vI s16.d.dl),(vL w45 s16.d.xs.length c46),(vI s16.st),(vI s16.ix),(vB s16.cn),(vI s16.tr),(vI s16.bg),(vI s16.er)])),(24,(vA #[(vS s16.d.name),(vI s16.d.rt),(vI s16.d.dl),(vL w9 s16.d.xs.length c10),(vI s16.st),(vI s16.ix),(vB s16.cn),(vI s16.tr),(vI s16.bg),(vI s16.er)])),(26,(vB true)),(27,(vB true)),(28,(vI 0)),(29,(vI 0)),(30,(vB true)),(31,(vB true)),(32,(vB true)),(33,(vP t1 0)),(35,(vP t2 0)),(34,(vL w86 ((idsL m).length) c87)),(36,(vL w97 ((idsL m).length) c98)),(37,(vB true)),(38,(vB true)),(39,(vB true)),(40,(vP t1 0)),(42,(vP t2 0)),(41,(vL w110 ((opnL m).length) c111)),(43,(vL w121 ((opnL m).length) c122)),(44,(vB true)),(45,(vB true)),(46,(vB true)),(47,(vP t1 0)),(49,(vP t2 0)),(48,(vL w134 ((nxtL m).length) c135)),(50,(vL w145 ((nxtL m).length) c146)),(51,(vB true)),(52,(vB true)),(53,(vB true)),(54,(vP t1 0)),(56,(vP t2 0)),(55,(vI ((m.length:Nat)))),(57,(vI ((m.length:Nat)))),(58,(vB true)),(59,(vB true)),(60,(vB true)),(61,(vP t1 0)),(63,(vP t2 0)),(62,(vB false)),(64,(vB false)),(65,(vB true)),(66,(vB true)),(6,(vB true))] ?_
   exact end_ev [] (vB true) (hK _ _ (⟨rfl,x178⟩))
 ·have p179:=p4 c8
  rw [(getE_ne c8).2.1] at p179
  obtain ⟨b180,eb181⟩:∃ zq,zq=h2.size:=⟨_,rfl⟩
  obtain ⟨h182,e183⟩:∃ zq,zq=h2.push (.cells #[(vS .empty),(vI 0),(vI 0),(Value.slice none 0 0),(vI 0),(vI 0),(vB false),(vI 0),(vI 0),(vI 0)] 38 (0,0)):=⟨_,rfl⟩
  have f184:=push_new e183
  rw [← eb181] at f184
  have x185:Ext h2 h182:=by rw [e183]; exact Ext.push _ _
  have o186:h.size≤b180:=by have:=x7.size; omega
  have x187:=x7.trans x185
  obtain ⟨h188,e189⟩:∃ zq,zq=h182.setIfInBounds b180 (.cells #[(vS .empty),(vI 0),(vI 0),(Value.slice none 0 0),(vI 0),(vI 0),(vB false),(vI 0),(vI 0),(vI 0)] 38 (0,0)):=⟨_,rfl⟩
  have f190:=set_same e189 f184
  have x191:=Ext.setNew x187 e189 o186
  obtain ⟨v192,h193,s194,p195,p196,x197⟩:=rget_ok h188 (ht2.keep fun b r _ q=>x191 b r q) ok (n)
  have f198:=x197 _ _ f190
  have x199:=x191.trans x197
  have p200:=p195 c8
  rw [(getE_ne c8).2.1] at p200
  obtain ⟨b201,eb202⟩:∃ zq,zq=h193.size:=⟨_,rfl⟩
  obtain ⟨h203,e204⟩:∃ zq,zq=h193.push (.cells #[(vS .empty),(vI 0),(vI 0),(Value.slice none 0 0),(vI 0),(vI 0),(vB false),(vI 0),(vI 0),(vI 0)] 51 (0,0)):=⟨_,rfl⟩
  have f205:=push_new e204
  rw [← eb202] at f205
  have n206:b201 ≠ b180:=by have:=row_lt f198; omega
  have x207:Ext h193 h203:=by rw [e204]; exact Ext.push _ _
  have o208:h.size≤b201:=by have:=x199.size; omega
  have f209:=x207 _ _ f198
  have x210:=x199.trans x207
  obtain ⟨h211,e212⟩:∃ zq,zq=h203.setIfInBounds b201 (.cells #[(vS .empty),(vI 0),(vI 0),(Value.slice none 0 0),(vI 0),(vI 0),(vB false),(vI 0),(vI 0),(vI 0)] 51 (0,0)):=⟨_,rfl⟩
  have f213:=set_same e212 f205
  have f214:=set_other e212 f209 n206
  have x215:=Ext.setNew x210 e212 o208
  obtain ⟨_,hh216,sn217,rfl,x218⟩:=turned_ok h211 .empty 0 0 none (0) (0) 0 0 false 0 0 0
  have f219:=x218 _ _ f213
  have x220:=x215.trans x218
  obtain ⟨_,hh221,sn222,rfl,x223⟩:=same_ok hh216 (SagaM.mk (DefM.mk .empty 0 0 ([]:List StepM)) 0 0 false 0 0 0) _ _ lat_none (by exact Nat.zero_le _) _ _ lat_none
  have x224:=x220.trans x223
  obtain ⟨_,h225,s226,w227,c228,rfl,o229,x230,n231⟩:=ids_ok hh221 (ht1.keep fun b r _ q=>x224 b r q) ok
  have z232:(idsL m).length≤64:=Nat.le_trans (Nat.le_of_eq (idsL_len _)) (ok).few
  have x233:=x224.trans x230
  have z234:h.size≤hh221.size:=x224.size
  have o235:∀ zz,blk (Value.slice w227 ((idsL m).length) (c228)) zz→h.size≤zz:=fun zz hz=>by have:=n231 zz hz; omega
  obtain ⟨_,h236,s237,w238,c239,rfl,o240,x241,n242⟩:=rids_ok h225 (ht2.keep fun b r _ q=>x233 b r q) ok
  have z243:(idsL m).length≤64:=Nat.le_trans (Nat.le_of_eq (idsL_len _)) (ok).few
  have p244:=o229.keep fun b r _ q=>x241 b r q
  have x245:=x233.trans x241
  have z246:h.size≤h225.size:=x233.size
  have o247:∀ zz,blk (Value.slice w238 ((idsL m).length) (c239)) zz→h.size≤zz:=fun zz hz=>by have:=n242 zz hz; omega
  obtain ⟨_,_,s248,rfl,rfl⟩:=eqI_ok h236 (idsL m) (idsL m) _ _ _ _ (p244.slice zc_size) (o240.slice zc_size) (by omega)
  obtain ⟨_,h249,s250,w251,c252,rfl,o253,x254,n255⟩:=open_ok h236 (ht1.keep fun b r _ q=>x245 b r q) ok (x245 _ _ hg0) (x245 _ _ hg1)
  have z256:(opnL m).length≤64:=Nat.le_trans (opnL_len _) (ok).few
  have x257:=x245.trans x254
  have z258:h.size≤h236.size:=x245.size
  have o259:∀ zz,blk (Value.slice w251 ((opnL m).length) (c252)) zz→h.size≤zz:=fun zz hz=>by have:=n255 zz hz; omega
  obtain ⟨_,h260,s261,w262,c263,rfl,o264,x265,n266⟩:=rOpen_ok h249 (ht2.keep fun b r _ q=>x257 b r q) ok
  have z267:(opnL m).length≤64:=Nat.le_trans (opnL_len _) (ok).few
  have p268:=o253.keep fun b r _ q=>x265 b r q
  have x269:=x257.trans x265
  have z270:h.size≤h249.size:=x257.size
  have o271:∀ zz,blk (Value.slice w262 ((opnL m).length) (c263)) zz→h.size≤zz:=fun zz hz=>by have:=n266 zz hz; omega
  obtain ⟨_,_,s272,rfl,rfl⟩:=eqI_ok h260 (opnL m) (opnL m) _ _ _ _ (p268.slice zc_size) (o264.slice zc_size) (by omega)
  obtain ⟨_,h273,s274,w275,c276,rfl,o277,x278,n279⟩:=tnext_ok h260 (ht1.keep fun b r _ q=>x269 b r q) ok (x269 _ _ hg0) (x269 _ _ hg1)
  have z280:(nxtL m).length≤64:=Nat.le_trans (nxtL_len _) (ok).few
  have x281:=x269.trans x278
  have z282:h.size≤h260.size:=x269.size
  have o283:∀ zz,blk (Value.slice w275 ((nxtL m).length) (c276)) zz→h.size≤zz:=fun zz hz=>by have:=n279 zz hz; omega
  obtain ⟨_,h284,s285,w286,c287,rfl,o288,x289,n290⟩:=rNext_ok h273 (ht2.keep fun b r _ q=>x281 b r q) ok
  have z291:(nxtL m).length≤64:=Nat.le_trans (nxtL_len _) (ok).few
  have p292:=o277.keep fun b r _ q=>x289 b r q
  have x293:=x281.trans x289
  have z294:h.size≤h273.size:=x281.size
  have o295:∀ zz,blk (Value.slice w286 ((nxtL m).length) (c287)) zz→h.size≤zz:=fun zz hz=>by have:=n290 zz hz; omega
  obtain ⟨_,_,s296,rfl,rfl⟩:=eqE_ok h284 (nxtL m) (nxtL m) _ _ _ _ (p292.slice effc_size) (o288.slice effc_size) (by omega)
  obtain ⟨_,h297,s298,rfl,x299⟩:=len_ok h284 (ht1.keep fun b r _ q=>x293 b r q) ok
  have x300:=x293.trans x299
  obtain ⟨_,h301,s302,rfl,x303⟩:=rlen_ok h297 (ht2.keep fun b r _ q=>x300 b r q) ok
  have x304:=x300.trans x303
  obtain ⟨_,h305,s306,rfl,x307⟩:=quiet_ok h301 (ht1.keep fun b r _ q=>x304 b r q) ok (x304 _ _ hg0) (x304 _ _ hg1)
  have x308:=x304.trans x307
  rcases Bool.eq_false_or_eq_true ((quietT m)) with c309 | c309
  ·have z310:(opnL m).length=0:=of_decide_eq_true c309
   obtain ⟨_,h311,s312,rfl,x313⟩:=rquiet_ok h305 (ht2.keep fun b r _ q=>x308 b r q) ok
   have x314:=x308.trans x313
   refine wc_ev [evFe 1 2 p179 s3,evA 1 6 eb181 e183,evUw 1 7 size38 f184 e189,evFe 2 2 p200 s194,evA 2 6 eb202 e204,evUw 2 7 size51 f205 e212,evLw 3 0 agg38 size38 f214,evLw 3 2 agg51 size51 f213,evF 3 1 sn217,evLw 99 0 agg51 size51 f219,evF 3 3 sn222,evF 3 11 s226,evF 3 13 s237,evFt 3 14 (Eq.refl _) s248,evF 3 18 s250,evF 3 20 s261,evFt 3 21 (Eq.refl _) s272,evF 3 25 s274,evF 3 27 s285,evFt 3 28 (Eq.refl _) s296,evF 3 32 s298,evF 3 34 s302,eqT 3 35 3 (Eq.refl (((m.length:Nat)):Int)),evFb 3 39 c309 s306,evFb 3 41 c309 s312] .ret h311 [(6,(vB false)),(12,(vP t1 0)),(13,(vI n)),(14,(vT #[(vA #[(vS .empty),(vI 0),(vI 0),(vL none 0 0),(vI 0),(vI 0),(vB false),(vI 0),(vI 0),(vI 0)]),(vI 5)])),(11,(vT #[(vA #[(vS .empty),(vI 0),(vI 0),(vL none 0 0),(vI 0),(vI 0),(vB false),(vI 0),(vI 0),(vI 0)]),(vI 5)])),(15,(vA #[(vS .empty),(vI 0),(vI 0),(vL none 0 0),(vI 0),(vI 0),(vB false),(vI 0),(vI 0),(vI 0)])),(16,(vI 5)),(7,(vP b180 0)),(8,(vI 5)),(18,(vP t2 0)),(19,(vI n)),(20,(vT #[(vA #[(vS .empty),(vI 0),(vI 0),(vL none 0 0),(vI 0),(vI 0),(vB false),(vI 0),(vI 0),(vI 0)]),(vI 5)])),(17,(vT #[(vA #[(vS .empty),(vI 0),(vI 0),(vL none 0 0),(vI 0),(vI 0),(vB false),(vI 0),(vI 0),(vI 0)]),(vI 5)])),(21,(vA #[(vS .empty),(vI 0),(vI 0),(vL none 0 0),(vI 0),(vI 0),(vB false),(vI 0),(vI 0),(vI 0)])),(22,(vI 5)),(9,(vP b201 0)),(10,(vI 5)),(23,(vA #[(vS .empty),(vI 0),(vI 0),(vL none 0 0),(vI 0),(vI 0),(vB false),(vI 0),(vI 0),(vI 0)])),(25,(vA #[(vS .empty),(vI 0),(vI 0),(vL none 0 0),(vI 0),(vI 0),(vB false),(vI 0),(vI 0),(vI 0)])),(24,(vA #[(vS .empty),(vI 0),(vI 0),(vL none 0 0),(vI 0),(vI 0),(vB false),(vI 0),(vI 0),(vI 0)])),(26,(vB true)),(27,(vB true)),(28,(vI 5)),(29,(vI 5)),(30,(vB true)),(31,(vB true)),(32,(vB true)),(33,(vP t1 0)),(35,(vP t2 0)),(34,(vL w227 ((idsL m).length) c228)),(36,(vL w238 ((idsL m).length) c239)),(37,(vB true)),(38,(vB true)),(39,(vB true)),(40,(vP t1 0)),(42,(vP t2 0)),(41,(vL w251 ((opnL m).length) c252)),(43,(vL w262 ((opnL m).length) c263)),(44,(vB true)),(45,(vB true)),(46,(vB true)),(47,(vP t1 0)),(49,(vP t2 0)),(48,(vL w275 ((nxtL m).length) c276)),(50,(vL w286 ((nxtL m).length) c287)),(51,(vB true)),(52,(vB true)),(53,(vB true)),(54,(vP t1 0)),(56,(vP t2 0)),(55,(vI ((m.length:Nat)))),(57,(vI ((m.length:Nat)))),(58,(vB true)),(59,(vB true)),(60,(vB true)),(61,(vP t1 0)),(63,(vP t2 0)),(62,(vB true)),(64,(vB true)),(65,(vB true)),(66,(vB true)),(6,(vB true))] ?_
   exact end_ev [] (vB true) (hK _ _ (⟨rfl,x314⟩))
  ·have z315:¬ (opnL m).length=0:=of_decide_eq_false c309
   obtain ⟨_,h316,s317,rfl,x318⟩:=rquiet_ok h305 (ht2.keep fun b r _ q=>x308 b r q) ok
   have x319:=x308.trans x318
   refine wc_ev [evFe 1 2 p179 s3,evA 1 6 eb181 e183,evUw 1 7 size38 f184 e189,evFe 2 2 p200 s194,evA 2 6 eb202 e204,evUw 2 7 size51 f205 e212,evLw 3 0 agg38 size38 f214,evLw 3 2 agg51 size51 f213,evF 3 1 sn217,evLw 99 0 agg51 size51 f219,evF 3 3 sn222,evF 3 11 s226,evF 3 13 s237,evFt 3 14 (Eq.refl _) s248,evF 3 18 s250,evF 3 20 s261,evFt 3 21 (Eq.refl _) s272,evF 3 25 s274,evF 3 27 s285,evFt 3 28 (Eq.refl _) s296,evF 3 32 s298,evF 3 34 s302,eqT 3 35 3 (Eq.refl (((m.length:Nat)):Int)),evFb 3 39 c309 s306,evFb 3 41 c309 s317] .ret h316 [(6,(vB false)),(12,(vP t1 0)),(13,(vI n)),(14,(vT #[(vA #[(vS .empty),(vI 0),(vI 0),(vL none 0 0),(vI 0),(vI 0),(vB false),(vI 0),(vI 0),(vI 0)]),(vI 5)])),(11,(vT #[(vA #[(vS .empty),(vI 0),(vI 0),(vL none 0 0),(vI 0),(vI 0),(vB false),(vI 0),(vI 0),(vI 0)]),(vI 5)])),(15,(vA #[(vS .empty),(vI 0),(vI 0),(vL none 0 0),(vI 0),(vI 0),(vB false),(vI 0),(vI 0),(vI 0)])),(16,(vI 5)),(7,(vP b180 0)),(8,(vI 5)),(18,(vP t2 0)),(19,(vI n)),(20,(vT #[(vA #[(vS .empty),(vI 0),(vI 0),(vL none 0 0),(vI 0),(vI 0),(vB false),(vI 0),(vI 0),(vI 0)]),(vI 5)])),(17,(vT #[(vA #[(vS .empty),(vI 0),(vI 0),(vL none 0 0),(vI 0),(vI 0),(vB false),(vI 0),(vI 0),(vI 0)]),(vI 5)])),(21,(vA #[(vS .empty),(vI 0),(vI 0),(vL none 0 0),(vI 0),(vI 0),(vB false),(vI 0),(vI 0),(vI 0)])),(22,(vI 5)),(9,(vP b201 0)),(10,(vI 5)),(23,(vA #[(vS .empty),(vI 0),(vI 0),(vL none 0 0),(vI 0),(vI 0),(vB false),(vI 0),(vI 0),(vI 0)])),(25,(vA #[(vS .empty),(vI 0),(vI 0),(vL none 0 0),(vI 0),(vI 0),(vB false),(vI 0),(vI 0),(vI 0)])),(24,(vA #[(vS .empty),(vI 0),(vI 0),(vL none 0 0),(vI 0),(vI 0),(vB false),(vI 0),(vI 0),(vI 0)])),(26,(vB true)),(27,(vB true)),(28,(vI 5)),(29,(vI 5)),(30,(vB true)),(31,(vB true)),(32,(vB true)),(33,(vP t1 0)),(35,(vP t2 0)),(34,(vL w227 ((idsL m).length) c228)),(36,(vL w238 ((idsL m).length) c239)),(37,(vB true)),(38,(vB true)),(39,(vB true)),(40,(vP t1 0)),(42,(vP t2 0)),(41,(vL w251 ((opnL m).length) c252)),(43,(vL w262 ((opnL m).length) c263)),(44,(vB true)),(45,(vB true)),(46,(vB true)),(47,(vP t1 0)),(49,(vP t2 0)),(48,(vL w275 ((nxtL m).length) c276)),(50,(vL w286 ((nxtL m).length) c287)),(51,(vB true)),(52,(vB true)),(53,(vB true)),(54,(vP t1 0)),(56,(vP t2 0)),(55,(vI ((m.length:Nat)))),(57,(vI ((m.length:Nat)))),(58,(vB true)),(59,(vB true)),(60,(vB true)),(61,(vP t1 0)),(63,(vP t2 0)),(62,(vB false)),(64,(vB false)),(65,(vB true)),(66,(vB true)),(6,(vB true))] ?_
   exact end_ev [] (vB true) (hK _ _ (⟨rfl,x319⟩))
theorem agg40:isAggA Tryz.prog 40=some true:=by kernel_rfl
theorem size40:(Tryz.prog.info? 40).map (·.size)=some 21:=by kernel_rfl
theorem und22:Tryz.prog.underlying 22=some (.slice 40):=by kernel_rfl
/-- A step of a script: its arguments, and where the lists lie. -/
structure StpM where
 dk:Int
 id:Int
 nw:Int
 d:DefM
 da:Option Addr
 dc:Nat
 e1:Int
 e2:Int
 e3:Int
 rs:Int
 s:SagaM
 sa:Option Addr
 sc:Nat
def stpc (x:StpM):Array Value:=#[(vI (x.dk)),(vI (x.id)),(vI (x.nw)),(vS x.d.name),(vI (x.d.rt)),(vI (x.d.dl)),(Value.slice x.da (x.d.xs.length) (x.dc)),(vI (x.e1)),(vI (x.e2)),(vI (x.e3)),(vI (x.rs)),(vS x.s.d.name),(vI (x.s.d.rt)),(vI (x.s.d.dl)),(Value.slice x.sa (x.s.d.xs.length) (x.sc)),(vI (x.s.st)),(vI (x.s.ix)),(vB x.s.cn),(vI (x.s.tr)),(vI (x.s.bg)),(vI (x.s.er))]
theorem stpc_size (x:StpM):(stpc x).size=21:=rfl
structure POk (h:Heap) (x:StpM):Prop where
 ld:LAt h stepc 2 x.d.xs (.slice x.da x.d.xs.length x.dc)
 nd:x.d.xs.length≤9223372036854775807
 ls:LAt h stepc 2 x.s.d.xs (.slice x.sa x.s.d.xs.length x.sc)
 ns:x.s.d.xs.length≤9223372036854775807
 zd:x.d.name.size≤9223372036854775807∧∀ y ∈ x.d.xs,y.key.size≤9223372036854775807
 zs:x.s.d.name.size≤9223372036854775807∧∀ y ∈ x.s.d.xs,y.key.size≤9223372036854775807
 ri : -9223372036854775808≤x.id∧x.id≤9223372036854775807
 re : -9223372036854775808≤x.e1∧x.e1≤9223372036854775807
def FewS (x:StpM):Prop:=x.d.xs.length≤20∧x.s.d.xs.length≤20
theorem few_next {l:List StpM} {k j:Nat} {x:StpM} (h:∀ y ∈ l.take k,FewS y) (hx:l[j]?=some x) (hj:k=j) (hf:FewS x):∀ y ∈ l.take (k + 1),FewS y:=by
 subst hj
 intro y hy
 rw [take_next hx,List.mem_append,List.mem_singleton] at hy
 rcases hy with hy | rfl
 ·exact h y hy
 ·exact hf
theorem add_wrap {t:TypeId} {a b:Int}:binA Tryz.prog .add t (.int .i64 a) (.int .i64 b)=some (.int .i64 (IntKind.i64.wrap (a + b))):=by simp [binA,intBinA]
set_option maxHeartbeats 4000000 in
theorem small_ok (h:Heap) (d:DefM) (sa:Option Addr) (cp:Nat) (hl:LAt h stepc 2 d.xs (.slice sa d.xs.length cp)) (hlen:d.xs.length≤9223372036854775807):WCall Tryz.prog 46 #[(Value.agg #[(vS d.name),(vI (d.rt)),(vI (d.dl)),(Value.slice sa (d.xs.length) (cp))])] h (fun v h1=>∃ q,v=.bool q∧(q=true→d.xs.length≤20)∧Ext h h1):=by
 refine wcall_by fun K hK=>?_
 refine wcall_at { tmps:=#[(vA #[(vS d.name),(vI d.rt),(vI d.dl),(vL sa d.xs.length cp)]),vZ,vZ,vZ,vZ,vZ,vZ,vZ,vZ,vZ,vZ,vZ,vZ,vZ,vZ,vZ,vZ,vZ,vZ,vZ,vZ,vZ,vZ,vZ,vZ,vZ,vZ,vZ,vZ,vZ,vZ,vZ,vZ,vZ,vZ],defers:=[] } (by kernel_rfl) ?_
 refine wc_seq' (subc (bodyOf Tryz.prog 46) [0]) (subc (bodyOf Tryz.prog 46) [1]) (by kernel_rfl) ?_
 obtain ⟨b1,eb2⟩:∃ zq,zq=h.size:=⟨_,rfl⟩
 obtain ⟨h3,e4⟩:∃ zq,zq=h.push (.cells #[(vS d.name),(vI (d.rt)),(vI (d.dl)),(Value.slice sa (d.xs.length) (cp))] 31 (0,0)):=⟨_,rfl⟩
 have f5:=push_new e4
 rw [← eb2] at f5
 have x6:Ext h h3:=by rw [e4]; exact Ext.push _ _
 have o7:h.size≤b1:=by have:=(Ext.refl h).size; omega
 have x8:=(Ext.refl h).trans x6
 refine wc_ev [evA 0 0 eb2 e4] .normal h3 [(1,(vP b1 0)),(2,(vB false))] ?_ (by intro K'; kernel_rfl)
 refine wc_seq' (subc (bodyOf Tryz.prog 46) [1,0]) (subc (bodyOf Tryz.prog 46) [1,1]) (by kernel_rfl) ?_
 refine wc_ev [evC 1 1 0 agg9 f5] .normal h3 [(6,(vP b1 0)),(7,(vS d.name)),(8,(vI ((d.name.size:Nat)))),(3,(vI ((d.name.size:Nat))))] ?_ (by intro K'; kernel_rfl)
 refine wc_seq' (subc (bodyOf Tryz.prog 46) [1,1,0]) (subc (bodyOf Tryz.prog 46) [1,1,1]) (by kernel_rfl) ?_
 refine wc_seq' (subc (bodyOf Tryz.prog 46) [1,1,0,0]) (subc (bodyOf Tryz.prog 46) [1,1,0,1]) (by kernel_rfl) ?_
 obtain ⟨mn9,e10⟩:∃ q:Int,q=if (21:Int) < ((d.xs.length:Nat)) then (21:Int) else ((d.xs.length:Nat)):=⟨_,rfl⟩
 have u11:mn9≤21∧mn9≤((d.xs.length:Nat))∧0≤mn9∧(((d.xs.length:Nat))≤21→mn9=((d.xs.length:Nat)))∧(21≤((d.xs.length:Nat))→mn9=21):=by rw [e10]; split <;> omega
 obtain ⟨sb12,cq13,e14,p15,b16⟩:=slice_prefix stepc_size und29 size67 (by decide) (hl.slice stepc_size) (hl.pl) (kd:=.i64) (n:=((mn9):Int)) (by omega) (by omega)
 obtain ⟨zs17,e18⟩:∃ zq,zq=d.xs.take (((mn9):Int)).toNat:=⟨_,rfl⟩
 rw [← e18] at e14 p15 b16
 have lzs19:(zs17.length:Int)=((mn9):Int):=by rw [e18,List.length_take]; omega
 refine wc_ev [evC 2 1 3 agg29 f5,evC 2 3 3 agg29 f5,evV 2 5 (vI mn9) (show (vI mn9)=(vI (if (21:Int) < ((d.xs.length:Nat)) then (21:Int) else ((d.xs.length:Nat)))) from by rw [e10]),evV 2 6 (vL sb12 zs17.length cq13) (show sliceA Tryz.prog h3 29 (vL sa d.xs.length cp) none (some (vI mn9)) none=some (vL sb12 zs17.length cq13) from sliceA_mono (x:=_) x8 e14)] .normal h3 [(9,(vP b1 3)),(10,(vL sa d.xs.length cp)),(11,(vP b1 3)),(12,(vL sa d.xs.length cp)),(13,(vI ((d.xs.length:Nat)))),(14,(vI mn9)),(15,(vL sb12 zs17.length cq13)),(16,(vI ((zs17.length:Nat)))),(17,(vI 0))] ?_ (by intro K'; kernel_rfl)
 refine wc_block' 0 (subc (bodyOf Tryz.prog 46) [1,1,0,1,0]) (by kernel_rfl) ?_
 refine wc_loop' (subc (bodyOf Tryz.prog 46) [1,1,0,1,0,0]) (by kernel_rfl) (fun n' a' h'=>∃ (k:Int) (n:Int) (g0:Nat→Value),a'={ tmps:=#[(vA #[(vS d.name),(vI d.rt),(vI d.dl),(vL sa d.xs.length cp)]),(vP b1 0),(vB false),(vI n),vZ,(g0 5),(vP b1 0),(vS d.name),(vI ((d.name.size:Nat))),(vP b1 3),(vL sa d.xs.length cp),(vP b1 3),(vL sa d.xs.length cp),(vI ((d.xs.length:Nat))),(vI mn9),(vL sb12 zs17.length cq13),(vI ((zs17.length:Nat))),(vI k),(g0 18),(g0 19),(g0 20),(g0 21),(g0 22),(g0 23),(g0 24),(g0 25),(g0 26),vZ,vZ,vZ,vZ,vZ,vZ,vZ,vZ],defers:=[] }∧Ext h h'∧n'=zs17.length - k.toNat∧h'[b1]?=some (.cells #[(vS d.name),(vI d.rt),(vI d.dl),(vL sa d.xs.length cp)] 31 (0,0))∧(0≤k∧k≤(zs17.length:Nat))) ?_ (zs17.length - (0:Int).toNat) ⟨0,((d.name.size:Nat)),(fun i=>([vU,vU,vU,vU,vU,vZ,vU,vU,vU,vU,vU,vU,vU,vU,vU,vU,vU,vU,vZ,vZ,vZ,vZ,vZ,vZ,vZ,vZ,vZ]:List Value).getD i undef),by kernel_rfl,x8,rfl,f5,by omega⟩
 rintro n' _ h20 ⟨k,n,g0,rfl,x21,m22,f23,i24⟩
 by_cases c25:((k):Int) < ((zs17.length:Nat))
 ·obtain ⟨i26,v27,e28,l29,g30⟩:=list_at zs17 (e:=(k)) (by omega) (by first | omega | (simp only [List.length_set,List.length_append,List.length_singleton]; omega))
  obtain ⟨b31,o32,k33,q34,a35⟩:=p15.at stepc_size g30
  obtain ⟨b36,eb37⟩:∃ zq,zq=h20.size:=⟨_,rfl⟩
  obtain ⟨h38,e39⟩:∃ zq,zq=h20.push (.cells #[(vS .empty),(vI 0)] 67 (0,0)):=⟨_,rfl⟩
  have f40:=push_new e39
  rw [← eb37] at f40
  have n41:b36 ≠ b1:=by have:=row_lt f23; omega
  have x42:Ext h20 h38:=by rw [e39]; exact Ext.push _ _
  have o43:h.size≤b36:=by have:=x21.size; omega
  have f44:=x42 _ _ f23
  have x45:=x21.trans x42
  obtain ⟨h46,e47⟩:∃ zq,zq=h38.setIfInBounds b36 (.cells #[(vS v27.key),(vI (v27.delta))] 67 (0,0)):=⟨_,rfl⟩
  have f48:=set_same e47 f40
  have f49:=set_other e47 f44 n41
  have x50:=Ext.setNew x45 e47 o43
  refine wc_ev [ltT 3 0 3 c25,evV 4 0 (vP b31 o32) (show indexAddrA Tryz.prog 29 (vL sb12 zs17.length cq13) (vI k)=some (vP b31 o32) from a35 und29 size67 e28),evV 4 1 (vA #[(vS v27.key),(vI v27.delta)]) (show loadT Tryz.prog h20 67 (vP b31 o32)=some (vA #[(vS v27.key),(vI v27.delta)]) from (k33.keep fun b r _ q=>x21 b r q).agg (j:=0) agg67 size67 (show 0 + 2≤2 by decide) (by kernel_rfl)),evA 4 2 eb37 e39,evUw 4 3 size67 f40 e47,evC 5 2 0 agg9 f48,evV 5 4 (vI (IntKind.i64.wrap ((n) + ((v27.key.size:Nat))))) (show binA Tryz.prog .add 3 (vI n) (vI ((v27.key.size:Nat)))=some (vI (IntKind.i64.wrap ((n) + ((v27.key.size:Nat))))) from add_wrap),evV 6 0 (vI ((k) + 1)) (show binA Tryz.prog .add 3 (vI k) (vI 1)=some (vI ((k) + 1)) from add_i64 (by omega) (by omega))] .normal h46 [(18,(vB true)),(19,(vP b31 o32)),(20,(vA #[(vS v27.key),(vI v27.delta)])),(5,(vP b36 0)),(21,(vI n)),(22,(vP b36 0)),(23,(vS v27.key)),(24,(vI ((v27.key.size:Nat)))),(25,(vI (IntKind.i64.wrap ((n) + ((v27.key.size:Nat)))))),(3,(vI (IntKind.i64.wrap ((n) + ((v27.key.size:Nat)))))),(26,(vI ((k) + 1))),(17,(vI ((k) + 1)))] ?_ (by intro K'; kernel_rfl)
  exact ⟨zs17.length - (k + 1).toNat,by omega,⟨k + 1,IntKind.i64.wrap ((n) + ((v27.key.size:Nat))),(fun i=>([vU,vU,vU,vU,vU,(vP b36 0),vU,vU,vU,vU,vU,vU,vU,vU,vU,vU,vU,vU,(vB true),(vP b31 o32),(vA #[(vS v27.key),(vI v27.delta)]),(vI n),(vP b36 0),(vS v27.key),(vI ((v27.key.size:Nat))),(vI (IntKind.i64.wrap ((n) + ((v27.key.size:Nat))))),(vI ((k) + 1))]:List Value).getD i undef),by kernel_rfl,x50,rfl,f49,by omega⟩⟩
 ·refine wc_ev [ltF 3 0 3 c25] (.exit 0) h20 [(18,(vB false))] ?_ (by intro K'; kernel_rfl)
  by_cases c51:(((d.xs.length:Nat)):Int)≤20
  ·by_cases c52:((n):Int)≤1000
   ·refine wc_ev [evC 7 1 3 agg29 f23,leT 7 3 3 c51,leT 7 6 3 c52] .ret h20 [(27,(vP b1 3)),(28,(vL sa d.xs.length cp)),(29,(vI ((d.xs.length:Nat)))),(30,(vB true)),(31,(vB true)),(32,(vI n)),(33,(vB true)),(34,(vB true)),(2,(vB true))] ?_ (by intro K'; kernel_rfl)
    exact end_ev [] (vB true) (hK _ _ (⟨_,rfl,(fun _=>by omega),x21⟩))
   ·refine wc_ev [evC 7 1 3 agg29 f23,leT 7 3 3 c51,leF 7 6 3 c52] .ret h20 [(27,(vP b1 3)),(28,(vL sa d.xs.length cp)),(29,(vI ((d.xs.length:Nat)))),(30,(vB true)),(31,(vB true)),(32,(vI n)),(33,(vB false)),(34,(vB false)),(2,(vB false))] ?_ (by intro K'; kernel_rfl)
    exact end_ev [] (vB false) (hK _ _ (⟨_,rfl,(fun w=>nomatch w),x21⟩))
  ·refine wc_ev [evC 7 1 3 agg29 f23,leF 7 3 3 c51] .ret h20 [(27,(vP b1 3)),(28,(vL sa d.xs.length cp)),(29,(vI ((d.xs.length:Nat)))),(30,(vB false)),(31,(vB false)),(32,vZ),(33,vZ),(34,(vB false)),(2,(vB false))] ?_ (by intro K'; kernel_rfl)
   exact end_ev [] (vB false) (hK _ _ (⟨_,rfl,(fun w=>nomatch w),x21⟩))
set_option maxHeartbeats 4000000 in
theorem few_ok (h:Heap) (l:List StpM) (sa:Option Addr) (cp:Nat) (hl:LAt h stpc 21 l (.slice sa l.length cp)) (hlen:l.length≤9223372036854775807) (hq:∀ x ∈ l,POk h x):WCall Tryz.prog 10 #[(Value.slice sa (l.length) (cp))] h (fun v h1=>∃ q,v=.bool q∧(q=true→l.length≤100∧∀ y ∈ l,FewS y)∧Ext h h1):=by
 refine wcall_by fun K hK=>?_
 refine wcall_at { tmps:=#[(vL sa l.length cp),vZ,vZ,vZ,vZ,vZ,vZ,vZ,vZ,vZ,vZ,vZ,vZ,vZ,vZ,vZ,vZ,vZ,vZ,vZ,vZ,vZ,vZ,vZ,vZ,vZ,vZ,vZ,vZ,vZ],defers:=[] } (by kernel_rfl) ?_
 refine wc_seq' (subc (bodyOf Tryz.prog 10) [0]) (subc (bodyOf Tryz.prog 10) [1]) (by kernel_rfl) ?_
 refine wc_ev [] .normal h [(2,(vB false))] ?_ (by intro K'; kernel_rfl)
 refine wc_seq' (subc (bodyOf Tryz.prog 10) [1,0]) (subc (bodyOf Tryz.prog 10) [1,1]) (by kernel_rfl) ?_
 refine wc_seq' (subc (bodyOf Tryz.prog 10) [1,0,0]) (subc (bodyOf Tryz.prog 10) [1,0,1]) (by kernel_rfl) ?_
 obtain ⟨mn1,e4⟩:∃ q:Int,q=if (101:Int) < ((l.length:Nat)) then (101:Int) else ((l.length:Nat)):=⟨_,rfl⟩
 have u5:mn1≤101∧mn1≤((l.length:Nat))∧0≤mn1∧(((l.length:Nat))≤101→mn1=((l.length:Nat)))∧(101≤((l.length:Nat))→mn1=101):=by rw [e4]; split <;> omega
 obtain ⟨sb6,cq7,e8,p9,b10⟩:=slice_prefix stpc_size und22 size40 (by decide) (hl.slice stpc_size) (hl.pl) (kd:=.i64) (n:=((mn1):Int)) (by omega) (by omega)
 obtain ⟨zs11,e12⟩:∃ zq,zq=l.take (((mn1):Int)).toNat:=⟨_,rfl⟩
 rw [← e12] at e8 p9 b10
 have lzs13:(zs11.length:Int)=((mn1):Int):=by rw [e12,List.length_take]; omega
 have szs14:∀ x ∈ zs11,POk h x:=fun x hx=>hq x (List.mem_of_mem_take (by rw [← e12]; exact hx))
 refine wc_ev [evV 1 3 (vI mn1) (show (vI mn1)=(vI (if (101:Int) < ((l.length:Nat)) then (101:Int) else ((l.length:Nat)))) from by rw [e4]),evV 1 4 (vL sb6 zs11.length cq7) (show sliceA Tryz.prog h 22 (vL sa l.length cp) none (some (vI mn1)) none=some (vL sb6 zs11.length cq7) from e8)] .normal h [(5,(vL sa l.length cp)),(6,(vL sa l.length cp)),(7,(vI ((l.length:Nat)))),(8,(vI mn1)),(9,(vL sb6 zs11.length cq7)),(10,(vI ((zs11.length:Nat)))),(11,(vI 0))] ?_ (by intro K'; kernel_rfl)
 refine wc_block' 0 (subc (bodyOf Tryz.prog 10) [1,0,1,0]) (by kernel_rfl) ?_
 refine wc_loop' (subc (bodyOf Tryz.prog 10) [1,0,1,0,0]) (by kernel_rfl) (fun n' a' h'=>∃ (k:Int) (g0:Nat→Value),a'={ tmps:=#[(vL sa l.length cp),vZ,(g0 2),vZ,(g0 4),(vL sa l.length cp),(vL sa l.length cp),(vI ((l.length:Nat))),(vI mn1),(vL sb6 zs11.length cq7),(vI ((zs11.length:Nat))),(vI k),(g0 12),(g0 13),(g0 14),(g0 15),(g0 16),(g0 17),(g0 18),(g0 19),(g0 20),(g0 21),(g0 22),(g0 23),(g0 24),(g0 25),(g0 26),vZ,vZ,vZ],defers:=[] }∧Ext h h'∧n'=zs11.length - k.toNat∧(0≤k∧k≤(zs11.length:Nat))∧(∀ y ∈ zs11.take k.toNat,FewS y)) ?_ (zs11.length - (0:Int).toNat) ⟨0,(fun i=>([vU,vU,(vB false),vU,vZ,vU,vU,vU,vU,vU,vU,vU,vZ,vZ,vZ,vZ,vZ,vZ,vZ,vZ,vZ,vZ,vZ,vZ,vZ,vZ,vZ]:List Value).getD i undef),by kernel_rfl,(Ext.refl h),rfl,by omega,by simp⟩
 rintro n' _ h15 ⟨k,g0,rfl,x16,m17,i18,i19⟩
 by_cases c20:((k):Int) < ((zs11.length:Nat))
 ·obtain ⟨i21,v22,e23,l24,g25⟩:=list_at zs11 (e:=(k)) (by omega) (by first | omega | (simp only [List.length_set,List.length_append,List.length_singleton]; omega))
  obtain ⟨b26,o27,k28,q29,a30⟩:=p9.at stpc_size g25
  have t31:=szs14 _ (List.mem_of_getElem? g25)
  have:=t31.nd
  have:=t31.ns
  have:=t31.ri
  have:=t31.re
  obtain ⟨b32,eb33⟩:∃ zq,zq=h15.size:=⟨_,rfl⟩
  obtain ⟨h34,e35⟩:∃ zq,zq=h15.push (.cells #[(vI 0),(vI 0),(vI 0),(vS .empty),(vI 0),(vI 0),(Value.slice none 0 0),(vI 0),(vI 0),(vI 0),(vI 0),(vS .empty),(vI 0),(vI 0),(Value.slice none 0 0),(vI 0),(vI 0),(vB false),(vI 0),(vI 0),(vI 0)] 40 (0,0)):=⟨_,rfl⟩
  have f36:=push_new e35
  rw [← eb33] at f36
  have x37:Ext h15 h34:=by rw [e35]; exact Ext.push _ _
  have o38:h.size≤b32:=by have:=x16.size; omega
  have x39:=x16.trans x37
  obtain ⟨h40,e41⟩:∃ zq,zq=h34.setIfInBounds b32 (.cells #[(vI (v22.dk)),(vI (v22.id)),(vI (v22.nw)),(vS v22.d.name),(vI (v22.d.rt)),(vI (v22.d.dl)),(Value.slice v22.da (v22.d.xs.length) (v22.dc)),(vI (v22.e1)),(vI (v22.e2)),(vI (v22.e3)),(vI (v22.rs)),(vS v22.s.d.name),(vI (v22.s.d.rt)),(vI (v22.s.d.dl)),(Value.slice v22.sa (v22.s.d.xs.length) (v22.sc)),(vI (v22.s.st)),(vI (v22.s.ix)),(vB v22.s.cn),(vI (v22.s.tr)),(vI (v22.s.bg)),(vI (v22.s.er))] 40 (0,0)):=⟨_,rfl⟩
  have f42:=set_same e41 f36
  have x43:=Ext.setNew x39 e41 o38
  obtain ⟨_,h44,s45,q46,rfl,u47,x48⟩:=small_ok h40 v22.d _ _ (t31.ld.keep fun b r _ q=>x43 b r q) (by omega)
  have f49:=x48 _ _ f42
  have x50:=x43.trans x48
  rcases Bool.eq_false_or_eq_true (q46) with c51 | c51
  ·have:=u47 c51
   obtain ⟨_,h52,s53,q54,rfl,u55,x56⟩:=small_ok h44 v22.s.d _ _ (t31.ls.keep fun b r _ q=>x50 b r q) (by omega)
   have x57:=x50.trans x56
   rcases Bool.eq_false_or_eq_true (q54) with c58 | c58
   ·have:=u55 c58
    refine wc_ev [ltT 2 0 3 c20,evV 3 0 (vP b26 o27) (show indexAddrA Tryz.prog 22 (vL sb6 zs11.length cq7) (vI k)=some (vP b26 o27) from a30 und22 size40 e23),evV 3 1 (vA #[(vI v22.dk),(vI v22.id),(vI v22.nw),(vS v22.d.name),(vI v22.d.rt),(vI v22.d.dl),(vL v22.da v22.d.xs.length v22.dc),(vI v22.e1),(vI v22.e2),(vI v22.e3),(vI v22.rs),(vS v22.s.d.name),(vI v22.s.d.rt),(vI v22.s.d.dl),(vL v22.sa v22.s.d.xs.length v22.sc),(vI v22.s.st),(vI v22.s.ix),(vB v22.s.cn),(vI v22.s.tr),(vI v22.s.bg),(vI v22.s.er)]) (show loadT Tryz.prog h15 40 (vP b26 o27)=some (vA #[(vI v22.dk),(vI v22.id),(vI v22.nw),(vS v22.d.name),(vI v22.d.rt),(vI v22.d.dl),(vL v22.da v22.d.xs.length v22.dc),(vI v22.e1),(vI v22.e2),(vI v22.e3),(vI v22.rs),(vS v22.s.d.name),(vI v22.s.d.rt),(vI v22.s.d.dl),(vL v22.sa v22.s.d.xs.length v22.sc),(vI v22.s.st),(vI v22.s.ix),(vB v22.s.cn),(vI v22.s.tr),(vI v22.s.bg),(vI v22.s.er)]) from (k28.keep fun b r _ q=>x16 b r q).agg (j:=0) agg40 size40 (show 0 + 21≤21 by decide) (by kernel_rfl)),evA 3 2 eb33 e35,evUw 3 3 size40 f36 e41,evV 4 1 (vA #[(vS v22.d.name),(vI v22.d.rt),(vI v22.d.dl),(vL v22.da v22.d.xs.length v22.dc)]) (show loadT Tryz.prog h40 31 (vP b32 3)=some (vA #[(vS v22.d.name),(vI v22.d.rt),(vI v22.d.dl),(vL v22.da v22.d.xs.length v22.dc)]) from load_agg agg31 size31 f42 (by simp) (by kernel_rfl)),evFb 4 2 c51 s45,evV 4 7 (vA #[(vS v22.s.d.name),(vI v22.s.d.rt),(vI v22.s.d.dl),(vL v22.sa v22.s.d.xs.length v22.sc)]) (show loadT Tryz.prog h44 31 (vP b32 11)=some (vA #[(vS v22.s.d.name),(vI v22.s.d.rt),(vI v22.s.d.dl),(vL v22.sa v22.s.d.xs.length v22.sc)]) from load_agg agg31 size31 f49 (by simp) (by kernel_rfl)),evFb 4 8 c58 s53,evV 6 0 (vI ((k) + 1)) (show binA Tryz.prog .add 3 (vI k) (vI 1)=some (vI ((k) + 1)) from add_i64 (by omega) (by omega))] .normal h52 [(12,(vB true)),(13,(vP b26 o27)),(14,(vA #[(vI v22.dk),(vI v22.id),(vI v22.nw),(vS v22.d.name),(vI v22.d.rt),(vI v22.d.dl),(vL v22.da v22.d.xs.length v22.dc),(vI v22.e1),(vI v22.e2),(vI v22.e3),(vI v22.rs),(vS v22.s.d.name),(vI v22.s.d.rt),(vI v22.s.d.dl),(vL v22.sa v22.s.d.xs.length v22.sc),(vI v22.s.st),(vI v22.s.ix),(vB v22.s.cn),(vI v22.s.tr),(vI v22.s.bg),(vI v22.s.er)])),(4,(vP b32 0)),(15,(vP b32 3)),(16,(vA #[(vS v22.d.name),(vI v22.d.rt),(vI v22.d.dl),(vL v22.da v22.d.xs.length v22.dc)])),(17,(vB true)),(18,(vB false)),(19,(vB false)),(20,(vP b32 11)),(21,(vP b32 11)),(22,(vA #[(vS v22.s.d.name),(vI v22.s.d.rt),(vI v22.s.d.dl),(vL v22.sa v22.s.d.xs.length v22.sc)])),(23,(vB true)),(24,(vB false)),(25,(vB false)),(26,(vI ((k) + 1))),(11,(vI ((k) + 1)))] ?_ (by intro K'; kernel_rfl)
    exact ⟨zs11.length - (k + 1).toNat,by omega,⟨k + 1,(fun i=>([vU,vU,(g0 2),vU,(vP b32 0),vU,vU,vU,vU,vU,vU,vU,(vB true),(vP b26 o27),(vA #[(vI v22.dk),(vI v22.id),(vI v22.nw),(vS v22.d.name),(vI v22.d.rt),(vI v22.d.dl),(vL v22.da v22.d.xs.length v22.dc),(vI v22.e1),(vI v22.e2),(vI v22.e3),(vI v22.rs),(vS v22.s.d.name),(vI v22.s.d.rt),(vI v22.s.d.dl),(vL v22.sa v22.s.d.xs.length v22.sc),(vI v22.s.st),(vI v22.s.ix),(vB v22.s.cn),(vI v22.s.tr),(vI v22.s.bg),(vI v22.s.er)]),(vP b32 3),(vA #[(vS v22.d.name),(vI v22.d.rt),(vI v22.d.dl),(vL v22.da v22.d.xs.length v22.dc)]),(vB true),(vB false),(vB false),(vP b32 11),(vP b32 11),(vA #[(vS v22.s.d.name),(vI v22.s.d.rt),(vI v22.s.d.dl),(vL v22.sa v22.s.d.xs.length v22.sc)]),(vB true),(vB false),(vB false),(vI ((k) + 1))]:List Value).getD i undef),by kernel_rfl,x57,rfl,by omega,by rw [show (k + 1).toNat=k.toNat + 1 by omega]; exact few_next i19 g25 (by omega) ⟨by omega,by omega⟩⟩⟩
   ·refine wc_ev [ltT 2 0 3 c20,evV 3 0 (vP b26 o27) (show indexAddrA Tryz.prog 22 (vL sb6 zs11.length cq7) (vI k)=some (vP b26 o27) from a30 und22 size40 e23),evV 3 1 (vA #[(vI v22.dk),(vI v22.id),(vI v22.nw),(vS v22.d.name),(vI v22.d.rt),(vI v22.d.dl),(vL v22.da v22.d.xs.length v22.dc),(vI v22.e1),(vI v22.e2),(vI v22.e3),(vI v22.rs),(vS v22.s.d.name),(vI v22.s.d.rt),(vI v22.s.d.dl),(vL v22.sa v22.s.d.xs.length v22.sc),(vI v22.s.st),(vI v22.s.ix),(vB v22.s.cn),(vI v22.s.tr),(vI v22.s.bg),(vI v22.s.er)]) (show loadT Tryz.prog h15 40 (vP b26 o27)=some (vA #[(vI v22.dk),(vI v22.id),(vI v22.nw),(vS v22.d.name),(vI v22.d.rt),(vI v22.d.dl),(vL v22.da v22.d.xs.length v22.dc),(vI v22.e1),(vI v22.e2),(vI v22.e3),(vI v22.rs),(vS v22.s.d.name),(vI v22.s.d.rt),(vI v22.s.d.dl),(vL v22.sa v22.s.d.xs.length v22.sc),(vI v22.s.st),(vI v22.s.ix),(vB v22.s.cn),(vI v22.s.tr),(vI v22.s.bg),(vI v22.s.er)]) from (k28.keep fun b r _ q=>x16 b r q).agg (j:=0) agg40 size40 (show 0 + 21≤21 by decide) (by kernel_rfl)),evA 3 2 eb33 e35,evUw 3 3 size40 f36 e41,evV 4 1 (vA #[(vS v22.d.name),(vI v22.d.rt),(vI v22.d.dl),(vL v22.da v22.d.xs.length v22.dc)]) (show loadT Tryz.prog h40 31 (vP b32 3)=some (vA #[(vS v22.d.name),(vI v22.d.rt),(vI v22.d.dl),(vL v22.da v22.d.xs.length v22.dc)]) from load_agg agg31 size31 f42 (by simp) (by kernel_rfl)),evFb 4 2 c51 s45,evV 4 7 (vA #[(vS v22.s.d.name),(vI v22.s.d.rt),(vI v22.s.d.dl),(vL v22.sa v22.s.d.xs.length v22.sc)]) (show loadT Tryz.prog h44 31 (vP b32 11)=some (vA #[(vS v22.s.d.name),(vI v22.s.d.rt),(vI v22.s.d.dl),(vL v22.sa v22.s.d.xs.length v22.sc)]) from load_agg agg31 size31 f49 (by simp) (by kernel_rfl)),evFb 4 8 c58 s53] .ret h52 [(12,(vB true)),(13,(vP b26 o27)),(14,(vA #[(vI v22.dk),(vI v22.id),(vI v22.nw),(vS v22.d.name),(vI v22.d.rt),(vI v22.d.dl),(vL v22.da v22.d.xs.length v22.dc),(vI v22.e1),(vI v22.e2),(vI v22.e3),(vI v22.rs),(vS v22.s.d.name),(vI v22.s.d.rt),(vI v22.s.d.dl),(vL v22.sa v22.s.d.xs.length v22.sc),(vI v22.s.st),(vI v22.s.ix),(vB v22.s.cn),(vI v22.s.tr),(vI v22.s.bg),(vI v22.s.er)])),(4,(vP b32 0)),(15,(vP b32 3)),(16,(vA #[(vS v22.d.name),(vI v22.d.rt),(vI v22.d.dl),(vL v22.da v22.d.xs.length v22.dc)])),(17,(vB true)),(18,(vB false)),(19,(vB false)),(20,(vP b32 11)),(21,(vP b32 11)),(22,(vA #[(vS v22.s.d.name),(vI v22.s.d.rt),(vI v22.s.d.dl),(vL v22.sa v22.s.d.xs.length v22.sc)])),(23,(vB false)),(24,(vB true)),(25,(vB true)),(2,(vB false))] ?_ (by intro K'; kernel_rfl)
    exact end_ev [] (vB false) (hK _ _ (⟨_,rfl,(fun w=>nomatch w),x57⟩))
  ·refine wc_ev [ltT 2 0 3 c20,evV 3 0 (vP b26 o27) (show indexAddrA Tryz.prog 22 (vL sb6 zs11.length cq7) (vI k)=some (vP b26 o27) from a30 und22 size40 e23),evV 3 1 (vA #[(vI v22.dk),(vI v22.id),(vI v22.nw),(vS v22.d.name),(vI v22.d.rt),(vI v22.d.dl),(vL v22.da v22.d.xs.length v22.dc),(vI v22.e1),(vI v22.e2),(vI v22.e3),(vI v22.rs),(vS v22.s.d.name),(vI v22.s.d.rt),(vI v22.s.d.dl),(vL v22.sa v22.s.d.xs.length v22.sc),(vI v22.s.st),(vI v22.s.ix),(vB v22.s.cn),(vI v22.s.tr),(vI v22.s.bg),(vI v22.s.er)]) (show loadT Tryz.prog h15 40 (vP b26 o27)=some (vA #[(vI v22.dk),(vI v22.id),(vI v22.nw),(vS v22.d.name),(vI v22.d.rt),(vI v22.d.dl),(vL v22.da v22.d.xs.length v22.dc),(vI v22.e1),(vI v22.e2),(vI v22.e3),(vI v22.rs),(vS v22.s.d.name),(vI v22.s.d.rt),(vI v22.s.d.dl),(vL v22.sa v22.s.d.xs.length v22.sc),(vI v22.s.st),(vI v22.s.ix),(vB v22.s.cn),(vI v22.s.tr),(vI v22.s.bg),(vI v22.s.er)]) from (k28.keep fun b r _ q=>x16 b r q).agg (j:=0) agg40 size40 (show 0 + 21≤21 by decide) (by kernel_rfl)),evA 3 2 eb33 e35,evUw 3 3 size40 f36 e41,evV 4 1 (vA #[(vS v22.d.name),(vI v22.d.rt),(vI v22.d.dl),(vL v22.da v22.d.xs.length v22.dc)]) (show loadT Tryz.prog h40 31 (vP b32 3)=some (vA #[(vS v22.d.name),(vI v22.d.rt),(vI v22.d.dl),(vL v22.da v22.d.xs.length v22.dc)]) from load_agg agg31 size31 f42 (by simp) (by kernel_rfl)),evFb 4 2 c51 s45] .ret h44 [(12,(vB true)),(13,(vP b26 o27)),(14,(vA #[(vI v22.dk),(vI v22.id),(vI v22.nw),(vS v22.d.name),(vI v22.d.rt),(vI v22.d.dl),(vL v22.da v22.d.xs.length v22.dc),(vI v22.e1),(vI v22.e2),(vI v22.e3),(vI v22.rs),(vS v22.s.d.name),(vI v22.s.d.rt),(vI v22.s.d.dl),(vL v22.sa v22.s.d.xs.length v22.sc),(vI v22.s.st),(vI v22.s.ix),(vB v22.s.cn),(vI v22.s.tr),(vI v22.s.bg),(vI v22.s.er)])),(4,(vP b32 0)),(15,(vP b32 3)),(16,(vA #[(vS v22.d.name),(vI v22.d.rt),(vI v22.d.dl),(vL v22.da v22.d.xs.length v22.dc)])),(17,(vB false)),(18,(vB true)),(19,(vB true)),(20,vZ),(21,vZ),(22,vZ),(23,vZ),(24,vZ),(25,(vB true)),(2,(vB false))] ?_ (by intro K'; kernel_rfl)
   exact end_ev [] (vB false) (hK _ _ (⟨_,rfl,(fun w=>nomatch w),x50⟩))
 ·refine wc_ev [ltF 2 0 3 c20] (.exit 0) h15 [(12,(vB false))] ?_ (by intro K'; kernel_rfl)
  by_cases c59:(((l.length:Nat)):Int)≤100
  ·refine wc_ev [leT 7 2 3 c59] .ret h15 [(27,(vL sa l.length cp)),(28,(vI ((l.length:Nat)))),(29,(vB true)),(2,(vB true))] ?_ (by intro K'; kernel_rfl)
   have f9:=i19
   rw [List.take_of_length_le (by omega)] at f9
   have z9:zs11=l:=by rw [e12]; exact List.take_of_length_le (by omega)
   rw [z9] at f9
   exact end_ev [] (vB true) (hK _ _ (⟨_,rfl,fun _=>⟨by omega,f9⟩,x16⟩))
  ·refine wc_ev [leF 7 2 3 c59] .ret h15 [(27,(vL sa l.length cp)),(28,(vI ((l.length:Nat)))),(29,(vB false)),(2,(vB false))] ?_ (by intro K'; kernel_rfl)
   exact end_ev [] (vB false) (hK _ _ (⟨_,rfl,(fun w=>nomatch w),x16⟩))
end C29
