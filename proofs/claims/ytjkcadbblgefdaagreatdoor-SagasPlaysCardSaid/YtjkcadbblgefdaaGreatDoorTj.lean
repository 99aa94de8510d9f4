/- Sagas are the same; the examples of the chapter hold. -/
import Derived.Test.YtjkcadbblgefdaaGreatDoorTd
import Derived.KernelRfl
open Go Go.AM Go.Proofs
namespace C29
theorem agg25:isAggA Tryz.prog 25=some false:=by kernel_rfl
theorem agg42:isAggA Tryz.prog 42=some false:=by kernel_rfl
theorem agg63:isAggA Tryz.prog 63=some false:=by kernel_rfl
theorem size42:(Tryz.prog.info? 42).map (·.size)=some 1:=by kernel_rfl
theorem size63:(Tryz.prog.info? 63).map (·.size)=some 1:=by kernel_rfl
theorem sizeb3:(Tryz.prog.info? 3).map (fun i=>(i.size,i.bytes))=some (1,8):=by kernel_rfl
theorem sizeb33:(Tryz.prog.info? 33).map (fun i=>(i.size,i.bytes))=some (3,24):=by kernel_rfl
theorem und42:Tryz.prog.underlying 42=some (.slice 33):=by kernel_rfl
theorem und63:Tryz.prog.underlying 63=some (.slice 3):=by kernel_rfl
theorem zero3:zeroA Tryz.prog 3=some (Value.int .i64 0):=by kernel_rfl
theorem zero33:zeroA Tryz.prog 33=some (Value.agg #[(Value.int .i64 0),(Value.int .i64 0),(Value.int .i64 0)]):=by kernel_rfl
set_option maxHeartbeats 4000000 in
theorem open_it (h:Heap) {O:Nat→Prop} {t mb:Nat} {ms:TabS} (T:TbRow 57 h O t ms mb) (ok:WfT (plT ms)) (bx:Nat) (hx:h[bx]?=some (.cells #[.pointer (some ⟨t,0,none⟩)] 25 (0,0))) (hg0:h[0]?=some (.cells #[(vI 0),(vI 1),(vI 3),(vI 2)] 128 (0,0))) (hg1:h[1]?=some (.cells #[Value.nilFunc,(Value.func (.func 178) #[] #[]),(Value.func (.func 179) #[] #[]),(Value.func (.func 180) #[] #[])] 130 (0,0))) (l:Nat) (I:Nat→(Nat→Prop)→Heap→Prop) (E:Heap→Prop) (D0:Nat→Prop) (hF:∀ b,O b→¬ D0 b) (hG:∀ z,D0 z→z < h.size) (hB:¬ D0 bx) (hV0:¬ D0 0) (hV1:¬ D0 1) (hX:∀ k D h' h'',I k D h'→Ext h' h''→I k D h'') (hy:∀ k y D h',(opnT (plT ms))[k]?=some y→I k D h'→∃ b h'' D',SoundYield Tryz.prog l #[(vI (y.1)),(Value.agg #[(vI (y.1)),(vI (y.2.ix)),(vI (phS y.2.st))])] h' (.bool b) h''∧Chg D h' h''∧(∀ z,D' z→D z ∨ h'.size≤z)∧(if b=true then I (k + 1) D' h'' else E h'')) (h0:I 0 D0 h):WCall Tryz.prog 103 #[(Value.func (.yield l) #[] #[]),(vP bx 0)] h (fun _ h1=>Chg D0 h h1∧((∃ D,I (opnT (plT ms)).length D h1∧∀ z,D z→D0 z ∨ h.size≤z) ∨ E h1)):=by
 refine wcall_by fun K hK=>?_
 refine wcall_at { tmps:=#[(Value.func (.yield l) #[] #[]),(vP bx 0),vZ,vZ,vZ,vZ,vZ,vZ,vZ,vZ,vZ,vZ,vZ,vZ,vZ,vZ,vZ,vZ,vZ,vZ,vZ,vZ,vZ,vZ,vZ,vZ,vZ,vZ,vZ,vZ,vZ,vZ,vZ,vZ,vZ,vZ,vZ],defers:=[] } (by kernel_rfl) ?_
 refine wc_seq' (subc (bodyOf Tryz.prog 103) [0]) (subc (bodyOf Tryz.prog 103) [1]) (by kernel_rfl) ?_
 obtain ⟨_,h2,s3,w4,c5,rfl,o6,x7,n8⟩:=ids_ok_r h (T.keep fun b r hb q=>(Chg.refl (O:=D0) h).same b r q (hF b hb)) ok
 have x9:=(Chg.refl (O:=D0) h).trans (Chg.ext x7)
 have sx10:=(Ext.refl h).trans x7
 have z11:h.size≤h.size:=(Chg.refl (O:=D0) h).size
 have o12:∀ zz,blk (Value.slice w4 ((idsL (plT ms)).length) (c5)) zz→h.size≤zz:=fun zz hz=>by have:=n8 zz hz; omega
 refine wc_ev [evC 0 0 0 agg25 ((Chg.refl (O:=D0) h).same _ _ hx hB),evF 0 1 s3] .normal h2 [(8,(vP t 0)),(9,(Value.slice w4 ((idsL (plT ms)).length) (c5))),(10,(vI (((idsL (plT ms)).length:Nat)))),(11,(vI 0))] ?_
 refine wc_block' 0 (subc (bodyOf Tryz.prog 103) [1,0]) (by kernel_rfl) ?_
 refine wc_loop' (subc (bodyOf Tryz.prog 103) [1,0,0]) (by kernel_rfl) (fun n' a' h'=>∃ (k:Int) (DD:Nat→Prop) (g0:Nat→Value),a'={ tmps:=#[(Value.func (.yield l) #[] #[]),(vP bx 0),vZ,vZ,(g0 4),(g0 5),(g0 6),(g0 7),(vP t 0),(Value.slice w4 ((idsL (plT ms)).length) (c5)),(vI (((idsL (plT ms)).length:Nat))),(vI k),(g0 12),(g0 13),(g0 14),(g0 15),(g0 16),(g0 17),(g0 18),(g0 19),(g0 20),(g0 21),(g0 22),(g0 23),(g0 24),(g0 25),(g0 26),(g0 27),(g0 28),(g0 29),(g0 30),(g0 31),(g0 32),(g0 33),(g0 34),(g0 35),(g0 36)],defers:=[] }∧Chg D0 h h'∧n'=ms.length - k.toNat∧(0≤k∧k≤(ms.length:Nat))∧I ((opnT ((plT ms).take k.toNat)).length) DD h'∧(∀ z,DD z→D0 z ∨ h.size≤z)∧(∀ zz,(blk (Value.slice w4 ((idsL (plT ms)).length) (c5))) zz→¬ DD zz)∧OwnAt h' 3 zc (idsL (plT ms)) (Value.slice w4 ((idsL (plT ms)).length) (c5))) ?_ (ms.length - (0:Int).toNat) ⟨0,D0,(fun i=>([vU,vU,vU,vU,vZ,vZ,vZ,vZ,vU,vU,vU,vU,vZ,vZ,vZ,vZ,vZ,vZ,vZ,vZ,vZ,vZ,vZ,vZ,vZ,vZ,vZ,vZ,vZ,vZ,vZ,vZ,vZ,vZ,vZ,vZ,vZ]:List Value).getD i undef),by as_aux_lemma=>kernel_rfl,x9,rfl,by omega,(by have q:=(hX _ _ _ _ h0 sx10); rw [show 0=(opnT ((plT ms).take (0:Int).toNat)).length from (rfl)] at q; exact q),(fun z hz=>.inl hz),(fun zz hz w=>by have:=o12 zz hz; have:=hG zz w; omega),o6⟩
 rintro n' _ h13 ⟨k,DD,g0,rfl,x14,m15,i17,i18,i19,i20,p21⟩
 have lk:=idsL_len (plT ms)
 have lk2:=plT_len ms
 have few:=ok.few
 by_cases c22:((k):Int) < (((idsL (plT ms)).length:Nat))
 ·obtain ⟨i23,v24,e25,l26,g27⟩:=list_at (idsL (plT ms)) (e:=(k)) (by omega) (by first | omega | (simp only [List.length_set,List.length_append,List.length_singleton]; omega))
  obtain ⟨b28,o29,q30,a31,k32,u33⟩:=p21.store zc_size g27
  obtain ⟨cv34,hcv35⟩:=ids_at g27
  have fkv36:findK ms v24=some cv34:=findK_of_mem T.map.apart (List.mem_of_getElem? hcv35)
  obtain ⟨kfkv4613,ifkv4613⟩:=ok.at (plT_some fkv36)
  obtain ⟨zfkv4613d,_,_⟩:=chkS_zero kfkv4613
  have:=defB_of zfkv4613d
  obtain ⟨_,h37,s38,rfl,x39⟩:=nextV_ok h13 cv34.1 _ _ ((T.lists.keep fun b r hb q=>x14.same b r q ((fun b hb=>hF b ((T.foot b).2 (.inr (.inr hb)))) b hb)).at fkv36) (by omega) (x14.same _ _ hg0 hV0) (x14.same _ _ hg1 hV1)
  have p40:=p21.keep fun b r _ q=>x39 b r q
  have x41:=x14.trans (Chg.ext x39)
  have sx42:=(Ext.refl h13).trans x39
  obtain ⟨z4630d,z4630b,z4630o⟩:=chkS_zero kfkv4613
  have:=defB_of z4630d
  have:=budB_of z4630b
  have z4630i:=okI_of z4630o
  have:=z4630i.1
  by_cases c43:((cv34.1.st):Int) < 4
  ·obtain ⟨b44,eb45⟩:∃ zq,zq=h37.size:=⟨_,rfl⟩
   obtain ⟨h46,e47⟩:∃ zq,zq=h37.push (.cells #[(vI 0),(vI 0),(vI 0)] 33 (0,0)):=⟨_,rfl⟩
   have f48:=push_new e47
   rw [← eb45] at f48
   have n49:∀ zz,(blk (Value.slice w4 ((idsL (plT ms)).length) (c5))) zz→¬ zz=b44:=fun zz hz ez=>by have:=p40.blk_lt hz; omega
   have x50:Ext h37 h46:=by rw [e47]; exact Ext.push _ _
   have o51:h.size≤b44:=by have:=x41.size; omega
   have p52:=p40.keep fun b r _ q=>x50 b r q
   have x53:=x41.trans (Chg.ext x50)
   have sx54:=sx42.trans x50
   have o55:h13.size≤b44:=by have:=sx42.size; omega
   obtain ⟨h56,e57⟩:∃ zq,zq=h46.setIfInBounds b44 (.cells #[(vI 0),(vI (cv34.1.ix)),(vI (phS (cv34.1.st)))] 33 (0,0)):=⟨_,rfl⟩
   have f58:=set_same e57 f48
   have p59:=p52.keep fun b r hb q=>(Chg.set e57).same b r q (n49 b hb)
   have x60:=x53.then (Chg.set e57) (fun b hb=>by subst hb; exact (.inr o51))
   have sx61:=Ext.setNew sx54 e57 o55
   obtain ⟨h62,e63⟩:∃ zq,zq=h56.setIfInBounds b44 (.cells #[(vI (v24)),(vI (cv34.1.ix)),(vI (phS (cv34.1.st)))] 33 (0,0)):=⟨_,rfl⟩
   have f65:=set_same e63 f58
   have p66:=p59.keep fun b r hb q=>(Chg.set e63).same b r q (n49 b hb)
   have x67:=x60.then (Chg.set e63) (fun b hb=>by subst hb; exact (.inr o51))
   have sx68:=Ext.setNew sx61 e63 o55
   obtain ⟨yk,yl⟩:=opn_yes (plT_ix hcv35) c43
   rw [show i23=k.toNat by omega] at yk yl
   obtain ⟨bb69,h70,D4669,s71,c72,n73,q74⟩:=hy ((opnT ((plT ms).take k.toNat)).length) (v24,cv34.1) _ h62 yk (hX _ _ _ _ i18 sx68)
   have z75:h.size≤h62.size:=x67.size
   have x76:=x67.then c72 i19
   have n77:∀ zz,(blk (Value.slice w4 ((idsL (plT ms)).length) (c5))) zz→¬ D4669 zz:=fun zz hz w=>(n73 zz w).elim (i20 zz hz) (fun g=>by have:=p66.blk_lt hz; omega)
   have p78:=p66.keep fun b r hb q=>c72.same b r q (i20 b hb)
   have d79:∀ z,D4669 z→D0 z ∨ h.size≤z:=fun z hz=>(n73 z hz).elim (i19 z) (fun w=>.inr (by omega))
   rcases bb69 with _ | _
   ·rw [if_neg (by decide)] at q74
    refine wc_ev [ltT 1 0 3 c22,evV 2 0 (vP b28 o29) (show indexAddrA Tryz.prog 63 (Value.slice w4 ((idsL (plT ms)).length) (c5)) (vI k)=some (vP b28 o29) from a31 und63 size3 e25),evV 2 1 (vI v24) (show loadT Tryz.prog h13 3 (vP b28 o29)=some (vI v24) from k32.cell (j:=0) agg3 rfl),evC 3 0 0 agg25 (x14.same _ _ hx hB),evC 3 3 0 agg55 (x14.same _ _ T.row (hF t ((T.foot t).2 (.inl rfl)))),evV 3 5 (vA #[(vS cv34.1.d.name),(vI cv34.1.d.rt),(vI cv34.1.d.dl),(vL cv34.2.1 cv34.1.d.xs.length cv34.2.2),(vI cv34.1.st),(vI cv34.1.ix),(vB cv34.1.cn),(vI cv34.1.tr),(vI cv34.1.bg),(vI cv34.1.er)]) (show lookupA Tryz.prog h13 55 (Value.map (some mb)) (vI v24) false=some (vA #[(vS cv34.1.d.name),(vI cv34.1.d.rt),(vI cv34.1.d.dl),(vL cv34.2.1 cv34.1.d.xs.length cv34.2.2),(vI cv34.1.st),(vI cv34.1.ix),(vB cv34.1.cn),(vI cv34.1.tr),(vI cv34.1.bg),(vI cv34.1.er)]) from (T.map.keep fun b r hb q=>x14.same b r q ((fun b hb=>hF b ((T.foot b).2 (.inr (.inl hb)))) b hb)).lookup_some mapty fkv36 false),evF 3 6 (by rw [nextV_open kfkv4613 c43] at s38; exact s38),evA 3 11 eb45 e47,evUw 3 12 size33 f48 e57,evT 4 2 0 size3 f58 e63,evLw 5 4 agg33 size33 f65,evH 5 5 (vB false) h70 (show SoundYield Tryz.prog l #[(vI v24),(vA #[(vI v24),(vI cv34.1.ix),(vI (phS (cv34.1.st)))])] h62 (vB false) h70 from s71)] .ret h70 [(12,(vB true)),(13,(vP b28 o29)),(14,(vI v24)),(4,(vI v24)),(16,(vP t 0)),(17,(vP t 0)),(18,(vP t 0)),(19,(Value.map (some mb))),(20,(vI v24)),(21,(vA #[(vS cv34.1.d.name),(vI cv34.1.d.rt),(vI cv34.1.d.dl),(vL cv34.2.1 cv34.1.d.xs.length cv34.2.2),(vI cv34.1.st),(vI cv34.1.ix),(vB cv34.1.cn),(vI cv34.1.tr),(vI cv34.1.bg),(vI cv34.1.er)])),(22,(vT #[(vA #[(vI 0),(vI cv34.1.ix),(vI (phS (cv34.1.st)))]),(vB true),(vI 0)])),(15,(vT #[(vA #[(vI 0),(vI cv34.1.ix),(vI (phS (cv34.1.st)))]),(vB true),(vI 0)])),(23,(vA #[(vI 0),(vI cv34.1.ix),(vI (phS (cv34.1.st)))])),(24,(vB true)),(25,(vI 0)),(5,(vP b44 0)),(6,(vB true)),(7,(vI 0)),(26,(vI v24)),(27,(vP b44 0)),(28,(vB true)),(29,(vB true)),(30,(Value.func (.yield l) #[] #[])),(31,(vI v24)),(32,(vA #[(vI v24),(vI cv34.1.ix),(vI (phS (cv34.1.st)))])),(33,(vB false)),(34,(vB true)),(35,(vB true))] ?_
    exact end_ev [] vZ (hK _ _ (⟨x76,.inr q74⟩))
   ·rw [if_pos rfl] at q74
    refine wc_ev [ltT 1 0 3 c22,evV 2 0 (vP b28 o29) (show indexAddrA Tryz.prog 63 (Value.slice w4 ((idsL (plT ms)).length) (c5)) (vI k)=some (vP b28 o29) from a31 und63 size3 e25),evV 2 1 (vI v24) (show loadT Tryz.prog h13 3 (vP b28 o29)=some (vI v24) from k32.cell (j:=0) agg3 rfl),evC 3 0 0 agg25 (x14.same _ _ hx hB),evC 3 3 0 agg55 (x14.same _ _ T.row (hF t ((T.foot t).2 (.inl rfl)))),evV 3 5 (vA #[(vS cv34.1.d.name),(vI cv34.1.d.rt),(vI cv34.1.d.dl),(vL cv34.2.1 cv34.1.d.xs.length cv34.2.2),(vI cv34.1.st),(vI cv34.1.ix),(vB cv34.1.cn),(vI cv34.1.tr),(vI cv34.1.bg),(vI cv34.1.er)]) (show lookupA Tryz.prog h13 55 (Value.map (some mb)) (vI v24) false=some (vA #[(vS cv34.1.d.name),(vI cv34.1.d.rt),(vI cv34.1.d.dl),(vL cv34.2.1 cv34.1.d.xs.length cv34.2.2),(vI cv34.1.st),(vI cv34.1.ix),(vB cv34.1.cn),(vI cv34.1.tr),(vI cv34.1.bg),(vI cv34.1.er)]) from (T.map.keep fun b r hb q=>x14.same b r q ((fun b hb=>hF b ((T.foot b).2 (.inr (.inl hb)))) b hb)).lookup_some mapty fkv36 false),evF 3 6 (by rw [nextV_open kfkv4613 c43] at s38; exact s38),evA 3 11 eb45 e47,evUw 3 12 size33 f48 e57,evT 4 2 0 size3 f58 e63,evLw 5 4 agg33 size33 f65,evH 5 5 (vB true) h70 (show SoundYield Tryz.prog l #[(vI v24),(vA #[(vI v24),(vI cv34.1.ix),(vI (phS (cv34.1.st)))])] h62 (vB true) h70 from s71),evV 6 0 (vI ((k) + 1)) (show binA Tryz.prog .add 3 (vI k) (vI 1)=some (vI ((k) + 1)) from add_i64 (by omega) (by omega))] .normal h70 [(12,(vB true)),(13,(vP b28 o29)),(14,(vI v24)),(4,(vI v24)),(16,(vP t 0)),(17,(vP t 0)),(18,(vP t 0)),(19,(Value.map (some mb))),(20,(vI v24)),(21,(vA #[(vS cv34.1.d.name),(vI cv34.1.d.rt),(vI cv34.1.d.dl),(vL cv34.2.1 cv34.1.d.xs.length cv34.2.2),(vI cv34.1.st),(vI cv34.1.ix),(vB cv34.1.cn),(vI cv34.1.tr),(vI cv34.1.bg),(vI cv34.1.er)])),(22,(vT #[(vA #[(vI 0),(vI cv34.1.ix),(vI (phS (cv34.1.st)))]),(vB true),(vI 0)])),(15,(vT #[(vA #[(vI 0),(vI cv34.1.ix),(vI (phS (cv34.1.st)))]),(vB true),(vI 0)])),(23,(vA #[(vI 0),(vI cv34.1.ix),(vI (phS (cv34.1.st)))])),(24,(vB true)),(25,(vI 0)),(5,(vP b44 0)),(6,(vB true)),(7,(vI 0)),(26,(vI v24)),(27,(vP b44 0)),(28,(vB true)),(29,(vB true)),(30,(Value.func (.yield l) #[] #[])),(31,(vI v24)),(32,(vA #[(vI v24),(vI cv34.1.ix),(vI (phS (cv34.1.st)))])),(33,(vB true)),(34,(vB false)),(35,(vB false)),(36,(vI ((k) + 1))),(11,(vI ((k) + 1)))] ?_
    exact ⟨ms.length - (k + 1).toNat,by omega,⟨k + 1,D4669,(fun i=>([vU,vU,vU,vU,(vI v24),(vP b44 0),(vB true),(vI 0),vU,vU,vU,vU,(vB true),(vP b28 o29),(vI v24),(vT #[(vA #[(vI 0),(vI cv34.1.ix),(vI (phS (cv34.1.st)))]),(vB true),(vI 0)]),(vP t 0),(vP t 0),(vP t 0),(Value.map (some mb)),(vI v24),(vA #[(vS cv34.1.d.name),(vI cv34.1.d.rt),(vI cv34.1.d.dl),(vL cv34.2.1 cv34.1.d.xs.length cv34.2.2),(vI cv34.1.st),(vI cv34.1.ix),(vB cv34.1.cn),(vI cv34.1.tr),(vI cv34.1.bg),(vI cv34.1.er)]),(vT #[(vA #[(vI 0),(vI cv34.1.ix),(vI (phS (cv34.1.st)))]),(vB true),(vI 0)]),(vA #[(vI 0),(vI cv34.1.ix),(vI (phS (cv34.1.st)))]),(vB true),(vI 0),(vI v24),(vP b44 0),(vB true),(vB true),(Value.func (.yield l) #[] #[]),(vI v24),(vA #[(vI v24),(vI cv34.1.ix),(vI (phS (cv34.1.st)))]),(vB true),(vB false),(vB false),(vI ((k) + 1))]:List Value).getD i undef),by as_aux_lemma=>kernel_rfl,x76,rfl,by have:=idsL_len (plT ms); have:=plT_len ms; omega,(by have q:=(hX _ _ _ _ q74 (Ext.refl h70)); rw [show (opnT ((plT ms).take k.toNat)).length + 1=(opnT ((plT ms).take (k + 1).toNat)).length from (by rw [show (k + 1).toNat=k.toNat + 1 by omega,yl])] at q; exact q),d79,n77,p78⟩⟩
  ·obtain ⟨b80,eb81⟩:∃ zq,zq=h37.size:=⟨_,rfl⟩
   obtain ⟨h82,e83⟩:∃ zq,zq=h37.push (.cells #[(vI 0),(vI 0),(vI 0)] 33 (0,0)):=⟨_,rfl⟩
   have f84:=push_new e83
   rw [← eb81] at f84
   have n85:∀ zz,(blk (Value.slice w4 ((idsL (plT ms)).length) (c5))) zz→¬ zz=b80:=fun zz hz ez=>by have:=p40.blk_lt hz; omega
   have x86:Ext h37 h82:=by rw [e83]; exact Ext.push _ _
   have o87:h.size≤b80:=by have:=x41.size; omega
   have p88:=p40.keep fun b r _ q=>x86 b r q
   have x89:=x41.trans (Chg.ext x86)
   have sx90:=sx42.trans x86
   have o91:h13.size≤b80:=by have:=sx42.size; omega
   obtain ⟨h92,e93⟩:∃ zq,zq=h82.setIfInBounds b80 (.cells #[(vI 0),(vI 0),(vI 0)] 33 (0,0)):=⟨_,rfl⟩
   have f94:=set_same e93 f84
   have p95:=p88.keep fun b r hb q=>(Chg.set e93).same b r q (n85 b hb)
   have x96:=x89.then (Chg.set e93) (fun b hb=>by subst hb; exact (.inr o87))
   have sx97:=Ext.setNew sx90 e93 o91
   obtain ⟨h98,e99⟩:∃ zq,zq=h92.setIfInBounds b80 (.cells #[(vI (v24)),(vI 0),(vI 0)] 33 (0,0)):=⟨_,rfl⟩
   have p100:=p95.keep fun b r hb q=>(Chg.set e99).same b r q (n85 b hb)
   have x101:=x96.then (Chg.set e99) (fun b hb=>by subst hb; exact (.inr o87))
   have sx102:=Ext.setNew sx97 e99 o91
   refine wc_ev [ltT 1 0 3 c22,evV 2 0 (vP b28 o29) (show indexAddrA Tryz.prog 63 (Value.slice w4 ((idsL (plT ms)).length) (c5)) (vI k)=some (vP b28 o29) from a31 und63 size3 e25),evV 2 1 (vI v24) (show loadT Tryz.prog h13 3 (vP b28 o29)=some (vI v24) from k32.cell (j:=0) agg3 rfl),evC 3 0 0 agg25 (x14.same _ _ hx hB),evC 3 3 0 agg55 (x14.same _ _ T.row (hF t ((T.foot t).2 (.inl rfl)))),evV 3 5 (vA #[(vS cv34.1.d.name),(vI cv34.1.d.rt),(vI cv34.1.d.dl),(vL cv34.2.1 cv34.1.d.xs.length cv34.2.2),(vI cv34.1.st),(vI cv34.1.ix),(vB cv34.1.cn),(vI cv34.1.tr),(vI cv34.1.bg),(vI cv34.1.er)]) (show lookupA Tryz.prog h13 55 (Value.map (some mb)) (vI v24) false=some (vA #[(vS cv34.1.d.name),(vI cv34.1.d.rt),(vI cv34.1.d.dl),(vL cv34.2.1 cv34.1.d.xs.length cv34.2.2),(vI cv34.1.st),(vI cv34.1.ix),(vB cv34.1.cn),(vI cv34.1.tr),(vI cv34.1.bg),(vI cv34.1.er)]) from (T.map.keep fun b r hb q=>x14.same b r q ((fun b hb=>hF b ((T.foot b).2 (.inr (.inl hb)))) b hb)).lookup_some mapty fkv36 false),evF 3 6 (by rw [nextV_done kfkv4613 c43] at s38; exact s38),evA 3 11 eb81 e83,evUw 3 12 size33 f84 e93,evT 4 2 0 size3 f94 e99,evV 6 0 (vI ((k) + 1)) (show binA Tryz.prog .add 3 (vI k) (vI 1)=some (vI ((k) + 1)) from add_i64 (by omega) (by omega))] .normal h98 [(12,(vB true)),(13,(vP b28 o29)),(14,(vI v24)),(4,(vI v24)),(16,(vP t 0)),(17,(vP t 0)),(18,(vP t 0)),(19,(Value.map (some mb))),(20,(vI v24)),(21,(vA #[(vS cv34.1.d.name),(vI cv34.1.d.rt),(vI cv34.1.d.dl),(vL cv34.2.1 cv34.1.d.xs.length cv34.2.2),(vI cv34.1.st),(vI cv34.1.ix),(vB cv34.1.cn),(vI cv34.1.tr),(vI cv34.1.bg),(vI cv34.1.er)])),(22,(vT #[(vA #[(vI 0),(vI 0),(vI 0)]),(vB false),(vI 0)])),(15,(vT #[(vA #[(vI 0),(vI 0),(vI 0)]),(vB false),(vI 0)])),(23,(vA #[(vI 0),(vI 0),(vI 0)])),(24,(vB false)),(25,(vI 0)),(5,(vP b80 0)),(6,(vB false)),(7,(vI 0)),(26,(vI v24)),(27,(vP b80 0)),(28,(vB false)),(29,(vB false)),(30,vZ),(31,vZ),(32,vZ),(33,vZ),(34,vZ),(35,(vB false)),(36,(vI ((k) + 1))),(11,(vI ((k) + 1)))] ?_
   exact ⟨ms.length - (k + 1).toNat,by omega,⟨k + 1,DD,(fun i=>([vU,vU,vU,vU,(vI v24),(vP b80 0),(vB false),(vI 0),vU,vU,vU,vU,(vB true),(vP b28 o29),(vI v24),(vT #[(vA #[(vI 0),(vI 0),(vI 0)]),(vB false),(vI 0)]),(vP t 0),(vP t 0),(vP t 0),(Value.map (some mb)),(vI v24),(vA #[(vS cv34.1.d.name),(vI cv34.1.d.rt),(vI cv34.1.d.dl),(vL cv34.2.1 cv34.1.d.xs.length cv34.2.2),(vI cv34.1.st),(vI cv34.1.ix),(vB cv34.1.cn),(vI cv34.1.tr),(vI cv34.1.bg),(vI cv34.1.er)]),(vT #[(vA #[(vI 0),(vI 0),(vI 0)]),(vB false),(vI 0)]),(vA #[(vI 0),(vI 0),(vI 0)]),(vB false),(vI 0),(vI v24),(vP b80 0),(vB false),(vB false),vZ,vZ,vZ,vZ,vZ,(vB false),(vI ((k) + 1))]:List Value).getD i undef),by as_aux_lemma=>kernel_rfl,x101,rfl,by have:=idsL_len (plT ms); have:=plT_len ms; omega,(by have q:=(hX _ _ _ _ i18 sx102); rw [show (opnT ((plT ms).take k.toNat)).length=(opnT ((plT ms).take (k + 1).toNat)).length from (by have q8:=opn_no (plT_ix hcv35) c43; rw [show i23=k.toNat by omega] at q8; rw [show (k + 1).toNat=k.toNat + 1 by omega,q8])] at q; exact q),i19,i20,p100⟩⟩
 ·refine wc_ev [ltF 1 0 3 c22] (.exit 0) h13 [(12,(vB false))] ?_
  exact end_ev [] vZ (hK _ _ (⟨x14,.inl ⟨DD,(by have q:=(hX _ _ _ _ i18 (Ext.refl h13)); rw [List.take_of_length_le (by have:=plT_len ms; omega)] at q; exact q),i19⟩⟩))
set_option maxHeartbeats 4000000 in
theorem open_ok_r (h:Heap) {O:Nat→Prop} {t mb:Nat} {ms:TabS} (T:TbRow 57 h O t ms mb) (ok:WfT (plT ms)) (hg0:h[0]?=some (.cells #[(vI 0),(vI 1),(vI 3),(vI 2)] 128 (0,0))) (hg1:h[1]?=some (.cells #[Value.nilFunc,(Value.func (.func 178) #[] #[]),(Value.func (.func 179) #[] #[]),(Value.func (.func 180) #[] #[])] 130 (0,0))):WCall Tryz.prog 31 #[(vP t 0)] h (fun v h1=>∃ oa oc,v=.slice oa (opnL (plT ms)).length oc∧OwnAt h1 3 zc (opnL (plT ms)) v∧Ext h h1∧∀ b,blk v b→h.size≤b):=by
 have hT':TbAt 57 h O t (plT ms):=⟨ms,mb,rfl,T⟩
 refine wcall_by fun K hK=>?_
 refine wcall_at { tmps:=#[(vP t 0),vZ,vZ,vZ,vZ,vZ,vZ,vZ,vZ,vZ,vZ,vZ,vZ,vZ],defers:=[] } (by kernel_rfl) ?_
 refine wc_seq' (subc (bodyOf Tryz.prog 31) [0]) (subc (bodyOf Tryz.prog 31) [1]) (by kernel_rfl) ?_
 refine wc_ev [] .normal h [(2,(vL none 0 0))] ?_
 refine wc_seq' (subc (bodyOf Tryz.prog 31) [1,0]) (subc (bodyOf Tryz.prog 31) [1,1]) (by kernel_rfl) ?_
 obtain ⟨b1,eb2⟩:∃ zq,zq=h.size:=⟨_,rfl⟩
 obtain ⟨h3,e4⟩:∃ zq,zq=h.push (.cells #[(Value.slice none 0 0)] 63 (0,0)):=⟨_,rfl⟩
 have f5:=push_new e4
 rw [← eb2] at f5
 have x6:Ext h h3:=by rw [e4]; exact Ext.push _ _
 have o7:h.size≤b1:=by have:=(Ext.refl h).size; omega
 have x8:=(Ext.refl h).trans x6
 refine wc_ev [evA 1 0 eb2 e4] .normal h3 [(3,(vP b1 0))] ?_
 refine wc_seq' (subc (bodyOf Tryz.prog 31) [1,1,0]) (subc (bodyOf Tryz.prog 31) [1,1,1]) (by kernel_rfl) ?_
 refine wc_seq' (subc (bodyOf Tryz.prog 31) [1,1,0,0]) (subc (bodyOf Tryz.prog 31) [1,1,0,1]) (by kernel_rfl) ?_
 obtain ⟨_,h9,s10,b11,rfl,f12,x13,o14⟩:=open_fn h3 t
 have n15:b11 ≠ b1:=by have:=row_lt f5; omega
 have oo16:h.size≤b11:=by have:=x8.size; omega
 have f17:=x13 _ _ f5
 have x18:=x8.trans x13
 refine wc_ev [evF 2 1 s10] .normal h9 [(5,(vP t 0)),(6,(Value.func (.func 103) #[] #[(vP b11 0)]))] ?_
 refine wc_block' 0 (subc (bodyOf Tryz.prog 31) [1,1,0,1,0]) (by kernel_rfl) ?_
 refine wc_act { tmps:=#[(vP t 0),vZ,(vL none 0 0),(vP b1 0),vZ,(vP t 0),(Value.func (.func 103) #[] #[(vP b11 0)]),vZ,vZ,vZ,vZ,vZ,vZ,vZ],defers:=[] } (by kernel_rfl) ?_
 obtain ⟨dv19,edv20⟩:∃ zq,zq=h9.size:=⟨_,rfl⟩
 obtain ⟨lp21,elp22⟩:∃ zq,zq=h9.size + 1:=⟨_,rfl⟩
 obtain ⟨tm23,etm24⟩:∃ zq:Array Value,zq=#[(vP t 0),(Value.tuple #[]),(Value.slice none 0 0),(vP b1 0),(Value.tuple #[]),(vP t 0),(Value.func (.func 103) #[] #[(vP b11 0)]),(Value.tuple #[]),(Value.tuple #[]),(Value.tuple #[]),(Value.tuple #[]),(Value.tuple #[]),(Value.tuple #[]),(Value.tuple #[])]:=⟨_,rfl⟩
 obtain ⟨L4744,eL4744⟩:∃ zq:Loop,zq={ state:=.ready,pending:=none,fn:=0,tmps:=tm23,params:=#[7,8],assign:=(subc (bodyOf Tryz.prog 31) [1,1,0,1,0,0]),body:=(subc (bodyOf Tryz.prog 31) [1,1,0,1,0,1]),defers:=dv19 }:=⟨_,rfl⟩
 have hs25:L4744.state=.ready:=by rw [eL4744]
 have hp26:L4744.pending=none:=by rw [eL4744]
 obtain ⟨h27,eh28⟩:∃ zq,zq=(h9.push (.deferred (some []))).push (.loop L4744):=⟨_,rfl⟩
 have x29:Ext h9 h27:=by rw [eh28]; exact (Ext.push _ _).trans (Ext.push _ _)
 have p30:At h27 lp21 (.loop L4744):=by rw [eh28,elp22,show h9.size + 1=(h9.push (.deferred (some []))).size by simp]; exact push_new rfl
 have p31:At h27 dv19 (.deferred (some [])):=by rw [eh28,edv20]; exact push_old (b:=h9.size) rfl (push_new rfl)
 have sh32:lp21 < h27.size:=p30.blk_lt rfl
 have z33:h.size≤h9.size:=x18.size
 have f34:=x29 _ _ f17
 have f35:=x29 _ _ f12
 have x36:=x18.trans x29
 have z37:h.size≤h27.size:=x36.size
 obtain ⟨D4755,eD4756⟩:∃ zq:Nat→Prop,zq=(fun (out:List Int) (oa:Option Addr) (oc:Nat)=>(fun b=>b=lp21 ∨ b=b1 ∨ (blk (Value.slice oa (out.length) (oc))) b ∨ False)) ([]) (none) (0):=⟨_,rfl⟩
 have hD4762:∀ b,D4755 b→h.size≤b:=by
  rw [eD4756]; rintro b (w | w | w | w)
  ·have w1:b=lp21:=w; omega
  ·have w1:b=b1:=w; have:=o7; omega
  ·exact w.elim
  ·exact w.elim
 have hd38:¬ D4755 dv19:=by
  rw [eD4756]; rintro (w | w | w | w)
  ·have w1:dv19=lp21:=w; omega
  ·have w1:dv19=b1:=w; have:=row_lt f17; omega
  ·exact w.elim
  ·exact w.elim
 obtain ⟨I4752,eI4751⟩:∃ zq:Nat→(Nat→Prop)→Heap→Prop,zq=fun (kk:Nat) (Dv:Nat→Prop) (h':Heap)=>∃ (out:List Int),∃ (oa:Option Addr),∃ (oc:Nat),Dv=(fun b=>b=lp21 ∨ b=b1 ∨ (blk (Value.slice oa (out.length) (oc))) b ∨ False)∧At h' lp21 (.loop L4744)∧Chg D4755 h27 h'∧(∀ z,Dv z→D4755 z ∨ h27.size≤z)∧h'[b1]?=some (.cells #[(Value.slice oa (out.length) (oc))] 63 (0,0))∧out=(((opnT (plT ms)).take (kk)).map (fun p=>p.1))∧OwnAt h' 3 zc out (Value.slice oa (out.length) (oc)):=⟨_,rfl⟩
 obtain ⟨E4753,eE4754⟩:∃ zq:Heap→Prop,zq=fun _=>False:=⟨_,rfl⟩
 have hX4770:∀ k D h' h'',I4752 k D h'→Ext h' h''→I4752 k D h'':=by
  rw [eI4751]
  rintro k _ h' h'' ⟨out,oa,oc,rfl,p39,c40,d41,f42,i43,p44⟩ xx
  exact ⟨out,oa,oc,rfl,xx _ _ p39,c40.trans (Chg.ext xx),d41,xx _ _ f42,i43,p44.keep fun b r _ q=>xx b r q⟩
 have hy45:∀ k y D h',((opnT (plT ms)))[k]?=some y→I4752 k D h'→∃ b h'' D',SoundYield Tryz.prog lp21 #[(vI (y.1)),(Value.agg #[(vI (y.1)),(vI (y.2.ix)),(vI (phS y.2.st))])] h' (.bool b) h''∧Chg D h' h''∧(∀ z,D' z→D z ∨ h'.size≤z)∧(if b=true then I4752 (k + 1) D' h'' else E4753 h''):=by
  rw [eI4751]
  rintro k y _ hr hk ⟨out,oa,oc,rfl,p39,c40,d41,f42,i43,p44⟩
  obtain ⟨Dc,eDc⟩:∃ zq:Nat→Prop,zq=(fun b=>b=lp21 ∨ b=b1 ∨ (blk (Value.slice oa (out.length) (oc))) b ∨ False):=⟨_,rfl⟩
  rw [← eDc] at d41
  rw [← eI4751]
  rw [← eDc]
  have lo1:out.length≤64:=by have e9:=congrArg List.length i43; have:=ok.few; have:=opn_take (fun p=>p.1) (plT ms) k; omega
  suffices hw:∃ b h'',SoundYield Tryz.prog lp21 #[(vI (y.1)),(Value.agg #[(vI (y.1)),(vI (y.2.ix)),(vI (phS y.2.st))])] hr (.bool b) h''∧(fun b h''=>∃ D',Chg Dc hr h''∧(∀ z,D' z→Dc z ∨ hr.size≤z)∧(if b=true then I4752 (k + 1) D' h'' else E4753 h'')) b h'' from by
   obtain ⟨b,h'',q1,D',q2,q3,q4⟩:=hw
   exact ⟨b,h'',D',q1,q2,q3,q4⟩
  refine w_round (args:=#[(vI (y.1)),(Value.agg #[(vI (y.1)),(vI (y.2.ix)),(vI (phS y.2.st))])]) (K:=(fun b h''=>∃ D',Chg Dc hr h''∧(∀ z,D' z→Dc z ∨ hr.size≤z)∧(if b=true then I4752 (k + 1) D' h'' else E4753 h''))) p39 hs25 (by rw [eL4744]; rfl) { tmps:=#[(vP t 0),(Value.tuple #[]),(Value.slice none 0 0),(vP b1 0),(Value.tuple #[]),(vP t 0),(Value.func (.func 103) #[] #[(vP b11 0)]),(vI (y.1)),(Value.agg #[(vI (y.1)),(vI (y.2.ix)),(vI (phS y.2.st))]),(Value.tuple #[]),(Value.tuple #[]),(Value.tuple #[]),(Value.tuple #[]),(Value.tuple #[])],defers:=[] } (by rw [eL4744,etm24]; kernel_rfl) (subc (bodyOf Tryz.prog 31) [1,1,0,1,0,0]) (subc (bodyOf Tryz.prog 31) [1,1,0,1,0,1]) (by rw [eL4744]) (by rw [eL4744]) ?_
  refine wc_ev [] .normal hr [(4,(vI y.1))] ?_
  refine ⟨rfl,L4744,p39,hs25,?_⟩
  obtain ⟨h46,e47⟩:∃ zq,zq=hr.setIfInBounds lp21 (.loop { L4744 with state:=.busy }):=⟨_,rfl⟩
  have p48:At h46 lp21 (.loop { L4744 with state:=.busy }):=set_same e47 p39
  have f49:=set_other e47 f42 (loop_ne p39 f42 rfl)
  have p50:=p44.keep fun b r hb q=>(Chg.set e47).same b r q ((fun b hb hb2=>(p44).celled.loop p39 b hb hb2) b hb)
  have x51:=(Chg.refl (O:=Dc) hr).then (Chg.set e47) (fun b hb=>.inl ((fun b hb=>by rw [eDc]; exact .inl hb) b hb))
  rw [← e47]
  obtain ⟨b52,eb53⟩:∃ zq,zq=h46.size:=⟨_,rfl⟩
  obtain ⟨h54,e55⟩:∃ zq,zq=h46.push (.cells #[(vI (y.1))] 3 (0,0)):=⟨_,rfl⟩
  have f56:=push_new e55
  rw [← eb53] at f56
  have x57:Ext h46 h54:=by rw [e55]; exact Ext.push _ _
  have o58:hr.size≤b52:=by have:=x51.size; omega
  have f59:=x57 _ _ f49
  have p60:=p50.keep fun b r _ q=>x57 b r q
  have p61:=p48.keep fun b r _ q=>x57 b r q
  have x62:=x51.trans (Chg.ext x57)
  obtain ⟨w63,h64,e65,p66,c67,n68,z69⟩:=own_append und63 sizeb3 zero3 rfl (by decide) zc_size (x:=y.1) p60 f56 rfl (by omega) (by unfold maxLen; omega)
  obtain ⟨a70,c71,rfl⟩:=(p66.slice zc_size).len
  have z72:hr.size≤h54.size:=x62.size
  have x73:=x62.then c67 (fun b hb=>.inl ((show ∀ b,(blk (Value.slice oa (out.length) (oc))) b→Dc b from fun b hb=>by rw [eDc]; exact .inr (.inr (.inl hb))) b hb))
  have f74:=c67.same _ _ f59 (fun hb=>p60.ne f59 (by decide) hb rfl)
  have p75:=p61.keep fun b r hb q=>c67.same b r q ((fun b hb hb2=>(p60).celled.loop p61 b hb2 hb) b hb)
  have n76:∀ zz,blk (Value.slice a70 ((out++[y.1]).length) (c71)) zz→¬ zz=b1:=fun zz hz ez=>by have:=n68 zz hz; have:=row_lt f59; omega
  have n77:∀ zz,blk (Value.slice a70 ((out++[y.1]).length) (c71)) zz→¬ (fun q=>q=lp21) zz:=fun zz hz ez=>by have:=n68 zz hz; have:=p61.blk_lt ez; omega
  have o78:∀ zz,blk (Value.slice a70 ((out++[y.1]).length) (c71)) zz→hr.size≤zz:=fun zz hz=>by have:=n68 zz hz; have:=z72; omega
  obtain ⟨h79,e80⟩:∃ zq,zq=h64.setIfInBounds b1 (.cells #[(Value.slice a70 ((out++[y.1]).length) (c71))] 63 (0,0)):=⟨_,rfl⟩
  have f81:=set_same e80 f74
  have p82:=p75.keep fun b r hb q=>(Chg.set e80).same b r q ((fun (b:Nat) hb=>loop_ne p75 f74 hb) b hb)
  have p83:=p66.keep fun b r hb q=>(Chg.set e80).same b r q (n76 b hb)
  have x84:=x73.then (Chg.set e80) (fun b hb=>by subst hb; exact (.inl (by rw [eDc]; exact .inr (.inl rfl))))
  refine wc_ev [evC 4 0 0 agg63 f49,evS 4 2 1 eb53 e55,evP 4 3 e65,evT 4 4 0 size63 f74 e80] .normal h79 [(9,(vL oa out.length oc)),(10,(vI y.1)),(11,(vL (some ⟨b52,0,none⟩) 1 1)),(12,(vL a70 ((out++[y.1]).length) c71))] ?_
  refine ⟨_,p82,?_⟩
  obtain ⟨h85,e86⟩:∃ zq,zq=h79.setIfInBounds lp21 (.loop { ({ L4744 with state:=.busy }:Loop) with state:=.ready,pending:=none }):=⟨_,rfl⟩
  have p87:At h85 lp21 (.loop { ({ L4744 with state:=.busy }:Loop) with state:=.ready,pending:=none }):=set_same e86 p82
  have f88:=set_other e86 f81 (loop_ne p82 f81 rfl)
  have p89:=p83.keep fun b r hb q=>(Chg.set e86).same b r q (n77 b hb)
  have x90:=x84.then (Chg.set e86) (fun b hb=>.inl ((fun b hb=>by rw [eDc]; exact .inl hb) b hb))
  have dnew:∀ z,((fun (out:List Int) (oa:Option Addr) (oc:Nat)=>(fun b=>b=lp21 ∨ b=b1 ∨ (blk (Value.slice oa (out.length) (oc))) b ∨ False)) ((out++[y.1])) (a70) (c71)) z→Dc z ∨ hr.size≤z:=by
   intro z hz; rcases hz with w | w | w | w
   ·exact .inl (by rw [eDc]; exact .inl w)
   ·exact .inl (by rw [eDc]; exact .inr (.inl w))
   ·exact .inr (o78 z w)
   ·exact w.elim
  refine (show ∃ D',Chg Dc hr (h85)∧(∀ z,D' z→Dc z ∨ hr.size≤z)∧(if true=true then I4752 (k + 1) D' h85 else E4753 h85) from ?_) |> (fun w=>by rw [e86] at w; exact w)
  refine ⟨(fun (out:List Int) (oa:Option Addr) (oc:Nat)=>(fun b=>b=lp21 ∨ b=b1 ∨ (blk (Value.slice oa (out.length) (oc))) b ∨ False)) ((out++[y.1])) (a70) (c71),x90,dnew,?_⟩
  rw [if_pos rfl]
  rw [eI4751]
  exact ⟨(out++[y.1]),a70,c71,rfl,(by have q:=p87; rw [loop_back hs25 hp26] at q; exact q),c40.then (x90) d41,fun z hz=>(dnew z hz).elim (d41 z) (fun w=>.inr (by have:=c40.size; omega)),f88,by rw [take_next hk,List.map_append,← i43]; rfl,p89⟩
 have h91:I4752 0 D4755 h27:=by rw [eI4751]; exact ⟨[],none,0,eD4756,p30,Chg.refl h27,fun z hz=>.inl hz,f34,rfl,.inl ⟨rfl,rfl⟩⟩
 refine wc_range_any (h1:=h27) (c:=(subc (bodyOf Tryz.prog 31) [1,1,0,1,0])) (g:=.tmp 6) (params:=#[7,8]) (assign:=(subc (bodyOf Tryz.prog 31) [1,1,0,1,0,0])) (body:=(subc (bodyOf Tryz.prog 31) [1,1,0,1,0,1])) (by kernel_rfl) 103 #[] #[(vP b11 0)] lp21 [{ target:=.collected dv19,args:=#[] }] #[(Value.func (.yield lp21) #[] #[]),(vP b11 0)] (by rfl) rfl rfl (by kernel_rfl) (by rw [eh28,elp22,eL4744,etm24,edv20]; rfl) ?_
 have hG4831:∀ z,D4755 z→z < h27.size:=by
  rw [eD4756]; rintro z (w | w | w | w)
  ·have w1:z=lp21:=w; omega
  ·have w1:z=b1:=w; have:=row_lt f34; omega
  ·exact w.elim
  ·exact w.elim
 have hB4832:¬ D4755 b11:=by
  rw [eD4756]; rintro (w | w | w | w)
  ·have w1:b11=lp21:=w; exact loop_ne p30 f35 (q:=b11) w1 rfl
  ·have w1:b11=b1:=w; exact n15 w1
  ·exact w.elim
  ·exact w.elim
 refine (open_it h27 (T.keep fun b r _ q=>x36 b r q) ok b11 f35 (x36 _ _ hg0) (x36 _ _ hg1) lp21 I4752 E4753 D4755 (fun b hb w=>by have:=hT'.blk_lt hb; have:=hD4762 b w; omega) hG4831 hB4832 (fun w=>by have:=hD4762 0 w; have:=row_lt hg0; omega) (fun w=>by have:=hD4762 1 w; have:=row_lt hg1; omega) hX4770 hy45 h91).mono fun _ h8 q=>?_
 obtain ⟨q0,q⟩:=q
 rcases q with ⟨Dv,q,qD⟩ | q
 ·rw [eI4751] at q
  obtain ⟨out,oa,oc,eDv,p92,cgN,hdN,f93,i94,p95⟩:=q
  refine ⟨_,p92,?_,leftBy_none hp26 ?_⟩
  ·exact fun w=>by rw [hs25] at w; cases w
  have p96:At h8 dv19 (.deferred (some [])):=q0.same _ _ p31 hd38
  obtain ⟨h97,e98⟩:∃ zq,zq=h8.setIfInBounds lp21 (.loop { L4744 with state:=.exhausted }):=⟨_,rfl⟩
  have f99:=set_other e98 f93 (loop_ne p92 f93 rfl)
  have p100:=p95.keep fun b r hb q=>(Chg.set e98).same b r q ((fun b hb hb2=>(p95).celled.loop p92 b hb hb2) b hb)
  have p101:=p96.keep fun b r hb q=>(Chg.set e98).same b r q ((fun b hb hb2=>(show ∀ b:Nat,b=lp21→b=dv19→False from fun b w1 w2=>by omega) b hb2 hb) b hb)
  rw [← e98]
  have c102:=q0.then (Chg.set e98) (fun b hb=>.inl (by rw [eD4756]; exact .inl hb))
  have x103:Ext h h97:=(Chg.then (O:=fun _=>False) (Chg.ext x36) c102 (fun b hb=>.inr (hD4762 b hb))).toExt'
  have nb:∀ zz,blk (Value.slice oa (out.length) (oc)) zz→h.size≤zz:=fun zz hz=>(qD zz (by rw [eDv]; exact .inr (.inr (.inl hz)))).elim (hD4762 zz) (fun g=>by omega)
  rw [List.take_length] at i94
  refine wc_ev [evC 5 0 0 agg63 f99] .ret h97 [(13,(vL oa out.length oc)),(2,(vL oa out.length oc))] ?_
  obtain ⟨h104,e105⟩:∃ zq,zq=h97.setIfInBounds dv19 (.deferred none):=⟨_,rfl⟩
  have p106:=p100.keep fun b r hb q=>(Chg.set e105).same b r q ((fun b hb hb2=>(p100).celled.defer p101 b hb hb2) b hb)
  have x107:Ext h h104:=Ext.setNew x103 e105 (by omega)
  have ek:out=opnL (plT ms):=i94
  refine end_mark3 (T:=hintsOf [] []) (dv:=dv19) { tmps:=#[(vP t 0),(Value.tuple #[]),(Value.slice oa (out.length) (oc)),(vP b1 0),(Value.tuple #[]),(vP t 0),(Value.func (.func 103) #[] #[(vP b11 0)]),(Value.tuple #[]),(Value.tuple #[]),(Value.tuple #[]),(Value.tuple #[]),(Value.tuple #[]),(Value.tuple #[]),(Value.slice oa (out.length) (oc))],defers:=([{ target:=.collected dv19,args:=#[] }]++[]) } (by kernel_rfl) (.inr rfl) rfl p101 e105 (A:=resQ [] (K (Value.slice oa (out.length) (oc)) h104)) (by kernel_rfl) ?_
  exact resQ_of _ (hK _ _ (⟨oa,oc,by rw [ek],by rw [← ek]; exact p106,x107,nb⟩))
 ·rw [eE4754] at q; exact q.elim
theorem open_ok (h:Heap) {O:Nat→Prop} {t:Nat} {m:Tab} (hT:TbAt 57 h O t m) (ok:WfT m) (hg0:h[0]?=some (.cells #[(vI 0),(vI 1),(vI 3),(vI 2)] 128 (0,0))) (hg1:h[1]?=some (.cells #[Value.nilFunc,(Value.func (.func 178) #[] #[]),(Value.func (.func 179) #[] #[]),(Value.func (.func 180) #[] #[])] 130 (0,0))):WCall Tryz.prog 31 #[(vP t 0)] h (fun v h1=>∃ oa oc,v=.slice oa (opnL m).length oc∧OwnAt h1 3 zc (opnL m) v∧Ext h h1∧∀ b,blk v b→h.size≤b):=by
 obtain ⟨ms,mb,rfl,T⟩:=hT
 exact open_ok_r h T ok hg0 hg1
set_option maxHeartbeats 4000000 in
theorem tnext_ok_r (h:Heap) {O:Nat→Prop} {t mb:Nat} {ms:TabS} (T:TbRow 57 h O t ms mb) (ok:WfT (plT ms)) (hg0:h[0]?=some (.cells #[(vI 0),(vI 1),(vI 3),(vI 2)] 128 (0,0))) (hg1:h[1]?=some (.cells #[Value.nilFunc,(Value.func (.func 178) #[] #[]),(Value.func (.func 179) #[] #[]),(Value.func (.func 180) #[] #[])] 130 (0,0))):WCall Tryz.prog 32 #[(vP t 0)] h (fun v h1=>∃ oa oc,v=.slice oa (nxtL (plT ms)).length oc∧OwnAt h1 33 effc (nxtL (plT ms)) v∧Ext h h1∧∀ b,blk v b→h.size≤b):=by
 have hT':TbAt 57 h O t (plT ms):=⟨ms,mb,rfl,T⟩
 refine wcall_by fun K hK=>?_
 refine wcall_at { tmps:=#[(vP t 0),vZ,vZ,vZ,vZ,vZ,vZ,vZ,vZ,vZ,vZ,vZ,vZ,vZ,vZ],defers:=[] } (by kernel_rfl) ?_
 refine wc_seq' (subc (bodyOf Tryz.prog 32) [0]) (subc (bodyOf Tryz.prog 32) [1]) (by kernel_rfl) ?_
 refine wc_ev [] .normal h [(2,(vL none 0 0))] ?_
 refine wc_seq' (subc (bodyOf Tryz.prog 32) [1,0]) (subc (bodyOf Tryz.prog 32) [1,1]) (by kernel_rfl) ?_
 obtain ⟨b1,eb2⟩:∃ zq,zq=h.size:=⟨_,rfl⟩
 obtain ⟨h3,e4⟩:∃ zq,zq=h.push (.cells #[(Value.slice none 0 0)] 42 (0,0)):=⟨_,rfl⟩
 have f5:=push_new e4
 rw [← eb2] at f5
 have x6:Ext h h3:=by rw [e4]; exact Ext.push _ _
 have o7:h.size≤b1:=by have:=(Ext.refl h).size; omega
 have x8:=(Ext.refl h).trans x6
 refine wc_ev [evA 1 0 eb2 e4] .normal h3 [(3,(vP b1 0))] ?_
 refine wc_seq' (subc (bodyOf Tryz.prog 32) [1,1,0]) (subc (bodyOf Tryz.prog 32) [1,1,1]) (by kernel_rfl) ?_
 refine wc_seq' (subc (bodyOf Tryz.prog 32) [1,1,0,0]) (subc (bodyOf Tryz.prog 32) [1,1,0,1]) (by kernel_rfl) ?_
 obtain ⟨_,h9,s10,b11,rfl,f12,x13,o14⟩:=open_fn h3 t
 have n15:b11 ≠ b1:=by have:=row_lt f5; omega
 have oo16:h.size≤b11:=by have:=x8.size; omega
 have f17:=x13 _ _ f5
 have x18:=x8.trans x13
 refine wc_ev [evF 2 1 s10] .normal h9 [(6,(vP t 0)),(7,(Value.func (.func 103) #[] #[(vP b11 0)]))] ?_
 refine wc_block' 0 (subc (bodyOf Tryz.prog 32) [1,1,0,1,0]) (by kernel_rfl) ?_
 refine wc_act { tmps:=#[(vP t 0),vZ,(vL none 0 0),(vP b1 0),vZ,vZ,(vP t 0),(Value.func (.func 103) #[] #[(vP b11 0)]),vZ,vZ,vZ,vZ,vZ,vZ,vZ],defers:=[] } (by kernel_rfl) ?_
 obtain ⟨dv19,edv20⟩:∃ zq,zq=h9.size:=⟨_,rfl⟩
 obtain ⟨lp21,elp22⟩:∃ zq,zq=h9.size + 1:=⟨_,rfl⟩
 obtain ⟨tm23,etm24⟩:∃ zq:Array Value,zq=#[(vP t 0),(Value.tuple #[]),(Value.slice none 0 0),(vP b1 0),(Value.tuple #[]),(Value.tuple #[]),(vP t 0),(Value.func (.func 103) #[] #[(vP b11 0)]),(Value.tuple #[]),(Value.tuple #[]),(Value.tuple #[]),(Value.tuple #[]),(Value.tuple #[]),(Value.tuple #[]),(Value.tuple #[])]:=⟨_,rfl⟩
 obtain ⟨L4884,eL4884⟩:∃ zq:Loop,zq={ state:=.ready,pending:=none,fn:=0,tmps:=tm23,params:=#[8,9],assign:=(subc (bodyOf Tryz.prog 32) [1,1,0,1,0,0]),body:=(subc (bodyOf Tryz.prog 32) [1,1,0,1,0,1]),defers:=dv19 }:=⟨_,rfl⟩
 have hs25:L4884.state=.ready:=by rw [eL4884]
 have hp26:L4884.pending=none:=by rw [eL4884]
 obtain ⟨h27,eh28⟩:∃ zq,zq=(h9.push (.deferred (some []))).push (.loop L4884):=⟨_,rfl⟩
 have x29:Ext h9 h27:=by rw [eh28]; exact (Ext.push _ _).trans (Ext.push _ _)
 have p30:At h27 lp21 (.loop L4884):=by rw [eh28,elp22,show h9.size + 1=(h9.push (.deferred (some []))).size by simp]; exact push_new rfl
 have p31:At h27 dv19 (.deferred (some [])):=by rw [eh28,edv20]; exact push_old (b:=h9.size) rfl (push_new rfl)
 have sh32:lp21 < h27.size:=p30.blk_lt rfl
 have z33:h.size≤h9.size:=x18.size
 have f34:=x29 _ _ f17
 have f35:=x29 _ _ f12
 have x36:=x18.trans x29
 have z37:h.size≤h27.size:=x36.size
 obtain ⟨D4895,eD4896⟩:∃ zq:Nat→Prop,zq=(fun (out:List EffM) (oa:Option Addr) (oc:Nat)=>(fun b=>b=lp21 ∨ b=b1 ∨ (blk (Value.slice oa (out.length) (oc))) b ∨ False)) ([]) (none) (0):=⟨_,rfl⟩
 have hD4902:∀ b,D4895 b→h.size≤b:=by
  rw [eD4896]; rintro b (w | w | w | w)
  ·have w1:b=lp21:=w; omega
  ·have w1:b=b1:=w; have:=o7; omega
  ·exact w.elim
  ·exact w.elim
 have hd38:¬ D4895 dv19:=by
  rw [eD4896]; rintro (w | w | w | w)
  ·have w1:dv19=lp21:=w; omega
  ·have w1:dv19=b1:=w; have:=row_lt f17; omega
  ·exact w.elim
  ·exact w.elim
 obtain ⟨I4892,eI4891⟩:∃ zq:Nat→(Nat→Prop)→Heap→Prop,zq=fun (kk:Nat) (Dv:Nat→Prop) (h':Heap)=>∃ (out:List EffM),∃ (oa:Option Addr),∃ (oc:Nat),Dv=(fun b=>b=lp21 ∨ b=b1 ∨ (blk (Value.slice oa (out.length) (oc))) b ∨ False)∧At h' lp21 (.loop L4884)∧Chg D4895 h27 h'∧(∀ z,Dv z→D4895 z ∨ h27.size≤z)∧h'[b1]?=some (.cells #[(Value.slice oa (out.length) (oc))] 42 (0,0))∧out=(((opnT (plT ms)).take (kk)).map (fun p=>(⟨p.1,p.2.ix,phS p.2.st⟩:EffM)))∧OwnAt h' 33 effc out (Value.slice oa (out.length) (oc)):=⟨_,rfl⟩
 obtain ⟨E4893,eE4894⟩:∃ zq:Heap→Prop,zq=fun _=>False:=⟨_,rfl⟩
 have hX4910:∀ k D h' h'',I4892 k D h'→Ext h' h''→I4892 k D h'':=by
  rw [eI4891]
  rintro k _ h' h'' ⟨out,oa,oc,rfl,p39,c40,d41,f42,i43,p44⟩ xx
  exact ⟨out,oa,oc,rfl,xx _ _ p39,c40.trans (Chg.ext xx),d41,xx _ _ f42,i43,p44.keep fun b r _ q=>xx b r q⟩
 have hy45:∀ k y D h',((opnT (plT ms)))[k]?=some y→I4892 k D h'→∃ b h'' D',SoundYield Tryz.prog lp21 #[(vI (y.1)),(Value.agg #[(vI (y.1)),(vI (y.2.ix)),(vI (phS y.2.st))])] h' (.bool b) h''∧Chg D h' h''∧(∀ z,D' z→D z ∨ h'.size≤z)∧(if b=true then I4892 (k + 1) D' h'' else E4893 h''):=by
  rw [eI4891]
  rintro k y _ hr hk ⟨out,oa,oc,rfl,p39,c40,d41,f42,i43,p44⟩
  obtain ⟨Dc,eDc⟩:∃ zq:Nat→Prop,zq=(fun b=>b=lp21 ∨ b=b1 ∨ (blk (Value.slice oa (out.length) (oc))) b ∨ False):=⟨_,rfl⟩
  rw [← eDc] at d41
  rw [← eI4891]
  rw [← eDc]
  have lo1:out.length≤64:=by have e9:=congrArg List.length i43; have:=ok.few; have:=opn_take (fun p=>(⟨p.1,p.2.ix,phS p.2.st⟩:EffM)) (plT ms) k; omega
  suffices hw:∃ b h'',SoundYield Tryz.prog lp21 #[(vI (y.1)),(Value.agg #[(vI (y.1)),(vI (y.2.ix)),(vI (phS y.2.st))])] hr (.bool b) h''∧(fun b h''=>∃ D',Chg Dc hr h''∧(∀ z,D' z→Dc z ∨ hr.size≤z)∧(if b=true then I4892 (k + 1) D' h'' else E4893 h'')) b h'' from by
   obtain ⟨b,h'',q1,D',q2,q3,q4⟩:=hw
   exact ⟨b,h'',D',q1,q2,q3,q4⟩
  refine w_round (args:=#[(vI (y.1)),(Value.agg #[(vI (y.1)),(vI (y.2.ix)),(vI (phS y.2.st))])]) (K:=(fun b h''=>∃ D',Chg Dc hr h''∧(∀ z,D' z→Dc z ∨ hr.size≤z)∧(if b=true then I4892 (k + 1) D' h'' else E4893 h''))) p39 hs25 (by rw [eL4884]; rfl) { tmps:=#[(vP t 0),(Value.tuple #[]),(Value.slice none 0 0),(vP b1 0),(Value.tuple #[]),(Value.tuple #[]),(vP t 0),(Value.func (.func 103) #[] #[(vP b11 0)]),(vI (y.1)),(Value.agg #[(vI (y.1)),(vI (y.2.ix)),(vI (phS y.2.st))]),(Value.tuple #[]),(Value.tuple #[]),(Value.tuple #[]),(Value.tuple #[]),(Value.tuple #[])],defers:=[] } (by rw [eL4884,etm24]; kernel_rfl) (subc (bodyOf Tryz.prog 32) [1,1,0,1,0,0]) (subc (bodyOf Tryz.prog 32) [1,1,0,1,0,1]) (by rw [eL4884]) (by rw [eL4884]) ?_
  obtain ⟨b46,eb47⟩:∃ zq,zq=hr.size:=⟨_,rfl⟩
  obtain ⟨h48,e49⟩:∃ zq,zq=hr.push (.cells #[(vI 0),(vI 0),(vI 0)] 33 (0,0)):=⟨_,rfl⟩
  have f50:=push_new e49
  rw [← eb47] at f50
  have n51:b46 ≠ b1:=by have:=row_lt f42; omega
  have n52:∀ zz,(blk (Value.slice oa (out.length) (oc))) zz→¬ zz=b46:=fun zz hz ez=>by have:=p44.blk_lt hz; omega
  have n53:∀ zz,(fun q=>q=lp21) zz→¬ zz=b46:=fun zz hz ez=>by have:=p39.blk_lt hz; omega
  have x54:Ext hr h48:=by rw [e49]; exact Ext.push _ _
  have o55:hr.size≤b46:=by have:=(Chg.refl (O:=Dc) hr).size; omega
  have f56:=x54 _ _ f42
  have p57:=p44.keep fun b r _ q=>x54 b r q
  have p58:=p39.keep fun b r _ q=>x54 b r q
  have x59:=(Chg.refl (O:=Dc) hr).trans (Chg.ext x54)
  obtain ⟨h60,e61⟩:∃ zq,zq=h48.setIfInBounds b46 (.cells #[(vI (y.1)),(vI (y.2.ix)),(vI (phS y.2.st))] 33 (0,0)):=⟨_,rfl⟩
  have f62:=set_same e61 f50
  have f63:=set_other e61 f56 n51
  have p64:=p57.keep fun b r hb q=>(Chg.set e61).same b r q (n52 b hb)
  have p65:=p58.keep fun b r hb q=>(Chg.set e61).same b r q (n53 b hb)
  have x66:=x59.then (Chg.set e61) (fun b hb=>by subst hb; exact (.inr o55))
  refine wc_ev [evA 3 0 eb47 e49,evUw 3 1 size33 f50 e61] .normal h60 [(5,(vP b46 0))] ?_
  refine ⟨rfl,L4884,p65,hs25,?_⟩
  obtain ⟨h67,e68⟩:∃ zq,zq=h60.setIfInBounds lp21 (.loop { L4884 with state:=.busy }):=⟨_,rfl⟩
  have p69:At h67 lp21 (.loop { L4884 with state:=.busy }):=set_same e68 p65
  have f70:=set_other e68 f63 (loop_ne p65 f63 rfl)
  have f71:=set_other e68 f62 (loop_ne p65 f62 rfl)
  have p72:=p64.keep fun b r hb q=>(Chg.set e68).same b r q ((fun b hb hb2=>(p64).celled.loop p65 b hb hb2) b hb)
  have x73:=x66.then (Chg.set e68) (fun b hb=>.inl ((fun b hb=>by rw [eDc]; exact .inl hb) b hb))
  rw [← e68]
  obtain ⟨b74,eb75⟩:∃ zq,zq=h67.size:=⟨_,rfl⟩
  obtain ⟨h76,e77⟩:∃ zq,zq=h67.push (.cells #[(vI (y.1)),(vI (y.2.ix)),(vI (phS y.2.st))] 33 (0,0)):=⟨_,rfl⟩
  have f78:=push_new e77
  rw [← eb75] at f78
  have x79:Ext h67 h76:=by rw [e77]; exact Ext.push _ _
  have o80:hr.size≤b74:=by have:=x73.size; omega
  have f81:=x79 _ _ f70
  have p82:=p72.keep fun b r _ q=>x79 b r q
  have p83:=p69.keep fun b r _ q=>x79 b r q
  have x84:=x73.trans (Chg.ext x79)
  obtain ⟨w85,h86,e87,p88,c89,n90,z91⟩:=own_append und42 sizeb33 zero33 rfl (by decide) effc_size (x:=(EffM.mk (y.1) (y.2.ix) (phS y.2.st))) p82 f78 rfl (by omega) (by unfold maxLen; omega)
  obtain ⟨a92,c93,rfl⟩:=(p88.slice effc_size).len
  have z94:hr.size≤h76.size:=x84.size
  have x95:=x84.then c89 (fun b hb=>.inl ((show ∀ b,(blk (Value.slice oa (out.length) (oc))) b→Dc b from fun b hb=>by rw [eDc]; exact .inr (.inr (.inl hb))) b hb))
  have f96:=c89.same _ _ f81 (fun hb=>p82.ne f81 (by decide) hb rfl)
  have p97:=p83.keep fun b r hb q=>c89.same b r q ((fun b hb hb2=>(p82).celled.loop p83 b hb2 hb) b hb)
  have n98:∀ zz,blk (Value.slice a92 ((out++[(EffM.mk (y.1) (y.2.ix) (phS y.2.st))]).length) (c93)) zz→¬ zz=b1:=fun zz hz ez=>by have:=n90 zz hz; have:=row_lt f81; omega
  have n99:∀ zz,blk (Value.slice a92 ((out++[(EffM.mk (y.1) (y.2.ix) (phS y.2.st))]).length) (c93)) zz→¬ (fun q=>q=lp21) zz:=fun zz hz ez=>by have:=n90 zz hz; have:=p83.blk_lt ez; omega
  have o100:∀ zz,blk (Value.slice a92 ((out++[(EffM.mk (y.1) (y.2.ix) (phS y.2.st))]).length) (c93)) zz→hr.size≤zz:=fun zz hz=>by have:=n90 zz hz; have:=z94; omega
  obtain ⟨h101,e102⟩:∃ zq,zq=h86.setIfInBounds b1 (.cells #[(Value.slice a92 ((out++[(EffM.mk (y.1) (y.2.ix) (phS y.2.st))]).length) (c93))] 42 (0,0)):=⟨_,rfl⟩
  have f103:=set_same e102 f96
  have p104:=p97.keep fun b r hb q=>(Chg.set e102).same b r q ((fun (b:Nat) hb=>loop_ne p97 f96 hb) b hb)
  have p105:=p88.keep fun b r hb q=>(Chg.set e102).same b r q (n98 b hb)
  have x106:=x95.then (Chg.set e102) (fun b hb=>by subst hb; exact (.inl (by rw [eDc]; exact .inr (.inl rfl))))
  refine wc_ev [evC 4 0 0 agg42 f70,evLw 4 1 agg33 size33 f71,evS 4 2 1 eb75 e77,evP 4 3 e87,evT 4 4 0 size42 f96 e102] .normal h101 [(10,(vL oa out.length oc)),(11,(vA #[(vI y.1),(vI y.2.ix),(vI (phS y.2.st))])),(12,(vL (some ⟨b74,0,none⟩) 1 1)),(13,(Value.slice a92 ((out++[(EffM.mk (y.1) (y.2.ix) (phS y.2.st))]).length) (c93)))] ?_
  refine ⟨_,p104,?_⟩
  obtain ⟨h107,e108⟩:∃ zq,zq=h101.setIfInBounds lp21 (.loop { ({ L4884 with state:=.busy }:Loop) with state:=.ready,pending:=none }):=⟨_,rfl⟩
  have p109:At h107 lp21 (.loop { ({ L4884 with state:=.busy }:Loop) with state:=.ready,pending:=none }):=set_same e108 p104
  have f110:=set_other e108 f103 (loop_ne p104 f103 rfl)
  have p111:=p105.keep fun b r hb q=>(Chg.set e108).same b r q (n99 b hb)
  have x112:=x106.then (Chg.set e108) (fun b hb=>.inl ((fun b hb=>by rw [eDc]; exact .inl hb) b hb))
  have dnew:∀ z,((fun (out:List EffM) (oa:Option Addr) (oc:Nat)=>(fun b=>b=lp21 ∨ b=b1 ∨ (blk (Value.slice oa (out.length) (oc))) b ∨ False)) ((out++[(EffM.mk (y.1) (y.2.ix) (phS y.2.st))])) (a92) (c93)) z→Dc z ∨ hr.size≤z:=by
   intro z hz; rcases hz with w | w | w | w
   ·exact .inl (by rw [eDc]; exact .inl w)
   ·exact .inl (by rw [eDc]; exact .inr (.inl w))
   ·exact .inr (o100 z w)
   ·exact w.elim
  refine (show ∃ D',Chg Dc hr (h107)∧(∀ z,D' z→Dc z ∨ hr.size≤z)∧(if true=true then I4892 (k + 1) D' h107 else E4893 h107) from ?_) |> (fun w=>by rw [e108] at w; exact w)
  refine ⟨(fun (out:List EffM) (oa:Option Addr) (oc:Nat)=>(fun b=>b=lp21 ∨ b=b1 ∨ (blk (Value.slice oa (out.length) (oc))) b ∨ False)) ((out++[(EffM.mk (y.1) (y.2.ix) (phS y.2.st))])) (a92) (c93),x112,dnew,?_⟩
  rw [if_pos rfl]
  rw [eI4891]
  exact ⟨(out++[(EffM.mk (y.1) (y.2.ix) (phS y.2.st))]),a92,c93,rfl,(by have q:=p109; rw [loop_back hs25 hp26] at q; exact q),c40.then (x112) d41,fun z hz=>(dnew z hz).elim (d41 z) (fun w=>.inr (by have:=c40.size; omega)),f110,by rw [take_next hk,List.map_append,← i43]; rfl,p111⟩
 have h113:I4892 0 D4895 h27:=by rw [eI4891]; exact ⟨[],none,0,eD4896,p30,Chg.refl h27,fun z hz=>.inl hz,f34,rfl,.inl ⟨rfl,rfl⟩⟩
 refine wc_range_any (h1:=h27) (c:=(subc (bodyOf Tryz.prog 32) [1,1,0,1,0])) (g:=.tmp 7) (params:=#[8,9]) (assign:=(subc (bodyOf Tryz.prog 32) [1,1,0,1,0,0])) (body:=(subc (bodyOf Tryz.prog 32) [1,1,0,1,0,1])) (by kernel_rfl) 103 #[] #[(vP b11 0)] lp21 [{ target:=.collected dv19,args:=#[] }] #[(Value.func (.yield lp21) #[] #[]),(vP b11 0)] (by rfl) rfl rfl (by kernel_rfl) (by rw [eh28,elp22,eL4884,etm24,edv20]; rfl) ?_
 have hG5002:∀ z,D4895 z→z < h27.size:=by
  rw [eD4896]; rintro z (w | w | w | w)
  ·have w1:z=lp21:=w; omega
  ·have w1:z=b1:=w; have:=row_lt f34; omega
  ·exact w.elim
  ·exact w.elim
 have hB5003:¬ D4895 b11:=by
  rw [eD4896]; rintro (w | w | w | w)
  ·have w1:b11=lp21:=w; exact loop_ne p30 f35 (q:=b11) w1 rfl
  ·have w1:b11=b1:=w; exact n15 w1
  ·exact w.elim
  ·exact w.elim
 refine (open_it h27 (T.keep fun b r _ q=>x36 b r q) ok b11 f35 (x36 _ _ hg0) (x36 _ _ hg1) lp21 I4892 E4893 D4895 (fun b hb w=>by have:=hT'.blk_lt hb; have:=hD4902 b w; omega) hG5002 hB5003 (fun w=>by have:=hD4902 0 w; have:=row_lt hg0; omega) (fun w=>by have:=hD4902 1 w; have:=row_lt hg1; omega) hX4910 hy45 h113).mono fun _ h8 q=>?_
 obtain ⟨q0,q⟩:=q
 rcases q with ⟨Dv,q,qD⟩ | q
 ·rw [eI4891] at q
  obtain ⟨out,oa,oc,eDv,p114,cgN,hdN,f115,i116,p117⟩:=q
  refine ⟨_,p114,?_,leftBy_none hp26 ?_⟩
  ·exact fun w=>by rw [hs25] at w; cases w
  have p118:At h8 dv19 (.deferred (some [])):=q0.same _ _ p31 hd38
  obtain ⟨h119,e120⟩:∃ zq,zq=h8.setIfInBounds lp21 (.loop { L4884 with state:=.exhausted }):=⟨_,rfl⟩
  have f121:=set_other e120 f115 (loop_ne p114 f115 rfl)
  have p122:=p117.keep fun b r hb q=>(Chg.set e120).same b r q ((fun b hb hb2=>(p117).celled.loop p114 b hb hb2) b hb)
  have p123:=p118.keep fun b r hb q=>(Chg.set e120).same b r q ((fun b hb hb2=>(show ∀ b:Nat,b=lp21→b=dv19→False from fun b w1 w2=>by omega) b hb2 hb) b hb)
  rw [← e120]
  have c124:=q0.then (Chg.set e120) (fun b hb=>.inl (by rw [eD4896]; exact .inl hb))
  have x125:Ext h h119:=(Chg.then (O:=fun _=>False) (Chg.ext x36) c124 (fun b hb=>.inr (hD4902 b hb))).toExt'
  have nb:∀ zz,blk (Value.slice oa (out.length) (oc)) zz→h.size≤zz:=fun zz hz=>(qD zz (by rw [eDv]; exact .inr (.inr (.inl hz)))).elim (hD4902 zz) (fun g=>by omega)
  rw [List.take_length] at i116
  refine wc_ev [evC 5 0 0 agg42 f121] .ret h119 [(14,(vL oa out.length oc)),(2,(vL oa out.length oc))] ?_
  obtain ⟨h126,e127⟩:∃ zq,zq=h119.setIfInBounds dv19 (.deferred none):=⟨_,rfl⟩
  have p128:=p122.keep fun b r hb q=>(Chg.set e127).same b r q ((fun b hb hb2=>(p122).celled.defer p123 b hb hb2) b hb)
  have x129:Ext h h126:=Ext.setNew x125 e127 (by omega)
  have ek:out=nxtL (plT ms):=i116
  refine end_mark3 (T:=hintsOf [] []) (dv:=dv19) { tmps:=#[(vP t 0),(Value.tuple #[]),(Value.slice oa (out.length) (oc)),(vP b1 0),(Value.tuple #[]),(Value.tuple #[]),(vP t 0),(Value.func (.func 103) #[] #[(vP b11 0)]),(Value.tuple #[]),(Value.tuple #[]),(Value.tuple #[]),(Value.tuple #[]),(Value.tuple #[]),(Value.tuple #[]),(Value.slice oa (out.length) (oc))],defers:=([{ target:=.collected dv19,args:=#[] }]++[]) } (by kernel_rfl) (.inr rfl) rfl p123 e127 (A:=resQ [] (K (Value.slice oa (out.length) (oc)) h126)) (by kernel_rfl) ?_
  exact resQ_of _ (hK _ _ (⟨oa,oc,by rw [ek],by rw [← ek]; exact p128,x129,nb⟩))
 ·rw [eE4894] at q; exact q.elim
theorem tnext_ok (h:Heap) {O:Nat→Prop} {t:Nat} {m:Tab} (hT:TbAt 57 h O t m) (ok:WfT m) (hg0:h[0]?=some (.cells #[(vI 0),(vI 1),(vI 3),(vI 2)] 128 (0,0))) (hg1:h[1]?=some (.cells #[Value.nilFunc,(Value.func (.func 178) #[] #[]),(Value.func (.func 179) #[] #[]),(Value.func (.func 180) #[] #[])] 130 (0,0))):WCall Tryz.prog 32 #[(vP t 0)] h (fun v h1=>∃ oa oc,v=.slice oa (nxtL m).length oc∧OwnAt h1 33 effc (nxtL m) v∧Ext h h1∧∀ b,blk v b→h.size≤b):=by
 obtain ⟨ms,mb,rfl,T⟩:=hT
 exact tnext_ok_r h T ok hg0 hg1
def quietT (m:Tab):Bool:=decide ((opnL m).length=0)
set_option maxHeartbeats 4000000 in
theorem quiet_ok_r (h:Heap) {O:Nat→Prop} {t mb:Nat} {ms:TabS} (T:TbRow 57 h O t ms mb) (ok:WfT (plT ms)) (hg0:h[0]?=some (.cells #[(vI 0),(vI 1),(vI 3),(vI 2)] 128 (0,0))) (hg1:h[1]?=some (.cells #[Value.nilFunc,(Value.func (.func 178) #[] #[]),(Value.func (.func 179) #[] #[]),(Value.func (.func 180) #[] #[])] 130 (0,0))):WCall Tryz.prog 34 #[(vP t 0)] h (fun v h1=>v=.bool (quietT (plT ms))∧Ext h h1):=by
 have hT':TbAt 57 h O t (plT ms):=⟨ms,mb,rfl,T⟩
 refine wcall_by fun K hK=>?_
 refine wcall_at { tmps:=#[(vP t 0),vZ,vZ,vZ,vZ,vZ,vZ,vZ,vZ,vZ,vZ,vZ],defers:=[] } (by kernel_rfl) ?_
 obtain ⟨_,_,sn1,rfl,rfl⟩:=made_ok h ((Ext.refl h) _ _ T.row)
 obtain ⟨_,h2,s3,w4,c5,rfl,o6,x7,n8⟩:=open_ok_r h (T.keep fun b r _ q=>(Ext.refl h) b r q) ok ((Ext.refl h) _ _ hg0) ((Ext.refl h) _ _ hg1)
 have x9:=(Ext.refl h).trans x7
 by_cases c10:((((opnL (plT ms)).length:Nat)):Int)=0
 ·refine wc_ev [evF 1 1 sn1,evF 1 5 s3,eqT 1 7 3 c10] .ret h2 [(2,(vB false)),(3,(vP t 0)),(4,(vI 0)),(5,(vB true)),(6,(vB true)),(7,(vP t 0)),(8,(Value.slice w4 ((opnL (plT ms)).length) (c5))),(9,(vI (((opnL (plT ms)).length:Nat)))),(10,(vB true)),(11,(vB true)),(2,(vB true))] ?_
  exact end_ev [] (vB true) (hK _ _ (⟨by rw [show quietT (plT ms)=true from decide_eq_true (by omega)],x9⟩))
 ·refine wc_ev [evF 1 1 sn1,evF 1 5 s3,eqF 1 7 3 c10] .ret h2 [(2,(vB false)),(3,(vP t 0)),(4,(vI 0)),(5,(vB true)),(6,(vB true)),(7,(vP t 0)),(8,(Value.slice w4 ((opnL (plT ms)).length) (c5))),(9,(vI (((opnL (plT ms)).length:Nat)))),(10,(vB false)),(11,(vB false)),(2,(vB false))] ?_
  exact end_ev [] (vB false) (hK _ _ (⟨by rw [show quietT (plT ms)=false from decide_eq_false (by omega)],x9⟩))
theorem quiet_ok (h:Heap) {O:Nat→Prop} {t:Nat} {m:Tab} (hT:TbAt 57 h O t m) (ok:WfT m) (hg0:h[0]?=some (.cells #[(vI 0),(vI 1),(vI 3),(vI 2)] 128 (0,0))) (hg1:h[1]?=some (.cells #[Value.nilFunc,(Value.func (.func 178) #[] #[]),(Value.func (.func 179) #[] #[]),(Value.func (.func 180) #[] #[])] 130 (0,0))):WCall Tryz.prog 34 #[(vP t 0)] h (fun v h1=>v=.bool (quietT m)∧Ext h h1):=by
 obtain ⟨ms,mb,rfl,T⟩:=hT
 exact quiet_ok_r h T ok hg0 hg1
def one (x:Int):ByteArray:=⟨#[UInt8.ofNat x.toNat]⟩
def two (c:UInt8) (x:Int):ByteArray:=⟨#[c,UInt8.ofNat x.toNat]⟩
/-- What a conversion of bytes to a text asks. -/
def OConv (h:Heap) (s d:TypeId) (x v:Value) (h1:Heap):Prop:=match withH h (bytesStrA Tryz.prog h s d x) with
 | some (v',h')=>v=v'∧h1=h'
 | none=>False
/-- The definition of a number. -/
def stpN (n:Int) (i:Nat):StepM:=⟨two 107 (97 + (i:Int)),n.tmod 9 - 9 - (i:Int)⟩
def stepsN (n:Int) (k:Nat):List StepM:=(List.range k).map (stpN n)
def defN (n:Int):DefM:=⟨two 100 (97 + n.tmod 26),n.tmod 4,((n / 4).tmod 8) * 5,stepsN n (1 + n.tmod 5).toNat⟩
theorem EffM.ext' {a b:EffM} (h:a.sg=b.sg∧a.sp=b.sp∧a.ph=b.ph):a=b:=by cases a; cases b; simp only [EffM.mk.injEq]; exact h
theorem StepM.ext' {a b:StepM} (h:a.key=b.key∧a.delta=b.delta):a=b:=by cases a; cases b; simp only [StepM.mk.injEq]; exact h
instance:DecidableEq EffM:=fun a b=>decidable_of_iff (a.sg=b.sg∧a.sp=b.sp∧a.ph=b.ph) ⟨EffM.ext',fun h=>by subst h; exact ⟨rfl,rfl,rfl⟩⟩
instance:DecidableEq StepM:=fun a b=>decidable_of_iff (a.key=b.key∧a.delta=b.delta) ⟨StepM.ext',fun h=>by subst h; exact ⟨rfl,rfl⟩⟩
theorem sl_row {α:Type} {f:α→Array Value} {z:Nat} {h:Heap} {b n:Nat} {xs:List α} {c:Array Value} {e:TypeId} (k:h[b]?=some (.cells c e (0,0))) (hz:∀ x,(f x).size=z) (e1:c=flat f xs) (hn:xs.length=n):SliceAt h f z xs (.slice (some ⟨b,0,none⟩) n n):=by
 subst hn
 refine .inr ⟨b,0,xs.length,c,e,(0,0),rfl,k,by decide,Nat.le_refl _,?_,?_⟩
 ·rw [e1,flat_size hz]; omega
 ·have:c.size=0 + xs.length * z:=by rw [e1,flat_size hz]; omega
  rw [← this,Array.extract_size]; exact e1
set_option maxHeartbeats 4000000 in
theorem eqI_ok (h:Heap) (xs ys:List Int) (sa sb:Option Addr) (ca cb:Nat) (hl:SliceAt h zc 1 xs (.slice sa xs.length ca)) (hm:SliceAt h zc 1 ys (.slice sb ys.length cb)) (hlen:xs.length≤9223372036854775807):WCall Tryz.prog 38 #[(Value.slice sa (xs.length) (ca)),(Value.slice sb (ys.length) (cb))] h (fun v h1=>v=.bool (decide (xs=ys))∧h=h1):=by
 refine wcall_by fun K hK=>?_
 refine wcall_at { tmps:=#[(vL sa xs.length ca),(vL sb ys.length cb),vZ,vZ,vZ,vZ,vZ,vZ,vZ,vZ,vZ,vZ,vZ,vZ,vZ,vZ,vZ,vZ,vZ,vZ,vZ,vZ,vZ,vZ,vZ,vZ],defers:=[] } (by kernel_rfl) ?_
 refine wc_seq' (subc (bodyOf Tryz.prog 38) [0]) (subc (bodyOf Tryz.prog 38) [1]) (by kernel_rfl) ?_
 refine wc_ev [] .normal h [(4,(vB false))] ?_
 refine wc_seq' (subc (bodyOf Tryz.prog 38) [1,0]) (subc (bodyOf Tryz.prog 38) [1,1]) (by kernel_rfl) ?_
 by_cases c1:(((xs.length:Nat)):Int)=((ys.length:Nat))
 ·refine wc_ev [neF 1 4 3 c1] .normal h [(6,(vL sa xs.length ca)),(7,(vI ((xs.length:Nat)))),(8,(vL sb ys.length cb)),(9,(vI ((ys.length:Nat)))),(10,(vB false))] ?_
  refine wc_seq' (subc (bodyOf Tryz.prog 38) [1,1,0]) (subc (bodyOf Tryz.prog 38) [1,1,1]) (by kernel_rfl) ?_
  refine wc_seq' (subc (bodyOf Tryz.prog 38) [1,1,0,0]) (subc (bodyOf Tryz.prog 38) [1,1,0,1]) (by kernel_rfl) ?_
  refine wc_ev [] .normal h [(11,(vL sa xs.length ca)),(12,(vI ((xs.length:Nat)))),(13,(vI 0))] ?_
  refine wc_block' 0 (subc (bodyOf Tryz.prog 38) [1,1,0,1,0]) (by kernel_rfl) ?_
  refine wc_loop' (subc (bodyOf Tryz.prog 38) [1,1,0,1,0,0]) (by kernel_rfl) (fun n' a' h'=>∃ (k:Int) (g0:Nat→Value),a'={ tmps:=#[(vL sa xs.length ca),(vL sb ys.length cb),vZ,vZ,(g0 4),(g0 5),(vL sa xs.length ca),(vI ((xs.length:Nat))),(vL sb ys.length cb),(vI ((ys.length:Nat))),(vB false),(vL sa xs.length ca),(vI ((xs.length:Nat))),(vI k),(g0 14),(g0 15),(g0 16),(g0 17),(g0 18),(g0 19),(g0 20),(g0 21),(g0 22),(g0 23),(g0 24),(g0 25)],defers:=[] }∧h=h'∧n'=xs.length - k.toNat∧(0≤k∧k≤(xs.length:Nat))∧xs.take k.toNat=ys.take k.toNat) ?_ (xs.length - (0:Int).toNat) ⟨0,(fun i=>([vU,vU,vU,vU,(vB false),vZ,vU,vU,vU,vU,vU,vU,vU,vU,vZ,vZ,vZ,vZ,vZ,vZ,vZ,vZ,vZ,vZ,vZ,vZ]:List Value).getD i undef),by as_aux_lemma=>kernel_rfl,rfl,rfl,by omega,rfl⟩
  rintro n' _ _ ⟨k,g0,rfl,rfl,m2,i3,i4⟩
  by_cases c5:((k):Int) < ((xs.length:Nat))
  ·obtain ⟨i6,v7,e8,l9,g10⟩:=list_at xs (e:=(k)) (by omega) (by first | omega | (simp only [List.length_set,List.length_append,List.length_singleton]; omega))
   obtain ⟨b11,o12,k13,q14,a15⟩:=hl.at zc_size g10
   obtain ⟨i17,v18,e19,l20,g21⟩:=list_at ys (e:=(k)) (by omega) (by first | omega | (simp only [List.length_set,List.length_append,List.length_singleton]; omega))
   obtain ⟨b22,o23,k24,q25,a26⟩:=hm.at zc_size g21
   by_cases c27:((v7):Int)=(v18)
   ·refine wc_ev [ltT 4 0 3 c5,evV 6 2 (vP b11 o12) (show indexAddrA Tryz.prog 63 (vL sa xs.length ca) (vI k)=some (vP b11 o12) from a15 und63 size3 e8),evV 6 3 (vI v7) (show loadT Tryz.prog h 3 (vP b11 o12)=some (vI v7) from (k13.keep fun b r _ q=>(Ext.refl h) b r q).cell (j:=0) agg3 rfl),evV 6 6 (vP b22 o23) (show indexAddrA Tryz.prog 63 (vL sb ys.length cb) (vI k)=some (vP b22 o23) from a26 und63 size3 e19),evV 6 7 (vI v18) (show loadT Tryz.prog h 3 (vP b22 o23)=some (vI v18) from (k24.keep fun b r _ q=>(Ext.refl h) b r q).cell (j:=0) agg3 rfl),neF 6 8 3 c27,evV 8 0 (vI ((k) + 1)) (show binA Tryz.prog .add 3 (vI k) (vI 1)=some (vI ((k) + 1)) from add_i64 (by omega) (by omega))] .normal h [(14,(vB true)),(15,(vI k)),(5,(vI k)),(16,(vL sa xs.length ca)),(17,(vI k)),(18,(vP b11 o12)),(19,(vI v7)),(20,(vL sb ys.length cb)),(21,(vI k)),(22,(vP b22 o23)),(23,(vI v18)),(24,(vB false)),(25,(vI ((k) + 1))),(13,(vI ((k) + 1)))] ?_
    exact ⟨xs.length - (k + 1).toNat,by omega,⟨k + 1,(fun i=>([vU,vU,vU,vU,(g0 4),(vI k),vU,vU,vU,vU,vU,vU,vU,vU,(vB true),(vI k),(vL sa xs.length ca),(vI k),(vP b11 o12),(vI v7),(vL sb ys.length cb),(vI k),(vP b22 o23),(vI v18),(vB false),(vI ((k) + 1))]:List Value).getD i undef),by as_aux_lemma=>kernel_rfl,rfl,rfl,by omega,by rw [show (k + 1).toNat=i6 + 1 by omega,List.take_add_one,List.take_add_one,g10,show i6=i17 by omega,g21,show i17=k.toNat by omega,i4,show v7=v18 from c27]⟩⟩
   ·refine wc_ev [ltT 4 0 3 c5,evV 6 2 (vP b11 o12) (show indexAddrA Tryz.prog 63 (vL sa xs.length ca) (vI k)=some (vP b11 o12) from a15 und63 size3 e8),evV 6 3 (vI v7) (show loadT Tryz.prog h 3 (vP b11 o12)=some (vI v7) from (k13.keep fun b r _ q=>(Ext.refl h) b r q).cell (j:=0) agg3 rfl),evV 6 6 (vP b22 o23) (show indexAddrA Tryz.prog 63 (vL sb ys.length cb) (vI k)=some (vP b22 o23) from a26 und63 size3 e19),evV 6 7 (vI v18) (show loadT Tryz.prog h 3 (vP b22 o23)=some (vI v18) from (k24.keep fun b r _ q=>(Ext.refl h) b r q).cell (j:=0) agg3 rfl),neT 6 8 3 c27] .ret h [(14,(vB true)),(15,(vI k)),(5,(vI k)),(16,(vL sa xs.length ca)),(17,(vI k)),(18,(vP b11 o12)),(19,(vI v7)),(20,(vL sb ys.length cb)),(21,(vI k)),(22,(vP b22 o23)),(23,(vI v18)),(24,(vB true)),(4,(vB false))] ?_
    have n9:¬ xs=ys:=by intro w; subst w; have e9:i6=i17:=(by omega); subst e9; rw [g10] at g21; cases g21; exact c27 rfl
    exact end_ev [] (vB false) (hK _ _ (⟨by rw [decide_eq_false n9],rfl⟩))
  ·refine wc_ev [ltF 4 0 3 c5] (.exit 0) h [(14,(vB false))] ?_
   refine wc_ev [] .ret h [(4,(vB true))] ?_
   have e9:=i4
   rw [List.take_of_length_le (by omega),List.take_of_length_le (by omega)] at e9
   exact end_ev [] (vB true) (hK _ _ (⟨by rw [decide_eq_true e9],rfl⟩))
 ·refine wc_ev [neT 1 4 3 c1] .ret h [(6,(vL sa xs.length ca)),(7,(vI ((xs.length:Nat)))),(8,(vL sb ys.length cb)),(9,(vI ((ys.length:Nat)))),(10,(vB true)),(4,(vB false))] ?_
  exact end_ev [] (vB false) (hK _ _ (⟨by rw [decide_eq_false (fun w=>c1 (by rw [w]))],rfl⟩))
set_option maxHeartbeats 4000000 in
theorem eqE_ok (h:Heap) (xs ys:List EffM) (sa sb:Option Addr) (ca cb:Nat) (hl:SliceAt h effc 3 xs (.slice sa xs.length ca)) (hm:SliceAt h effc 3 ys (.slice sb ys.length cb)) (hlen:xs.length≤9223372036854775807):WCall Tryz.prog 39 #[(Value.slice sa (xs.length) (ca)),(Value.slice sb (ys.length) (cb))] h (fun v h1=>v=.bool (decide (xs=ys))∧h=h1):=by
 refine wcall_by fun K hK=>?_
 refine wcall_at { tmps:=#[(vL sa xs.length ca),(vL sb ys.length cb),vZ,vZ,vZ,vZ,vZ,vZ,vZ,vZ,vZ,vZ,vZ,vZ,vZ,vZ,vZ,vZ,vZ,vZ,vZ,vZ,vZ,vZ,vZ,vZ],defers:=[] } (by kernel_rfl) ?_
 refine wc_seq' (subc (bodyOf Tryz.prog 39) [0]) (subc (bodyOf Tryz.prog 39) [1]) (by kernel_rfl) ?_
 refine wc_ev [] .normal h [(4,(vB false))] ?_
 refine wc_seq' (subc (bodyOf Tryz.prog 39) [1,0]) (subc (bodyOf Tryz.prog 39) [1,1]) (by kernel_rfl) ?_
 by_cases c1:(((xs.length:Nat)):Int)=((ys.length:Nat))
 ·refine wc_ev [neF 1 4 3 c1] .normal h [(6,(vL sa xs.length ca)),(7,(vI ((xs.length:Nat)))),(8,(vL sb ys.length cb)),(9,(vI ((ys.length:Nat)))),(10,(vB false))] ?_
  refine wc_seq' (subc (bodyOf Tryz.prog 39) [1,1,0]) (subc (bodyOf Tryz.prog 39) [1,1,1]) (by kernel_rfl) ?_
  refine wc_seq' (subc (bodyOf Tryz.prog 39) [1,1,0,0]) (subc (bodyOf Tryz.prog 39) [1,1,0,1]) (by kernel_rfl) ?_
  refine wc_ev [] .normal h [(11,(vL sa xs.length ca)),(12,(vI ((xs.length:Nat)))),(13,(vI 0))] ?_
  refine wc_block' 0 (subc (bodyOf Tryz.prog 39) [1,1,0,1,0]) (by kernel_rfl) ?_
  refine wc_loop' (subc (bodyOf Tryz.prog 39) [1,1,0,1,0,0]) (by kernel_rfl) (fun n' a' h'=>∃ (k:Int) (g0:Nat→Value),a'={ tmps:=#[(vL sa xs.length ca),(vL sb ys.length cb),vZ,vZ,(g0 4),(g0 5),(vL sa xs.length ca),(vI ((xs.length:Nat))),(vL sb ys.length cb),(vI ((ys.length:Nat))),(vB false),(vL sa xs.length ca),(vI ((xs.length:Nat))),(vI k),(g0 14),(g0 15),(g0 16),(g0 17),(g0 18),(g0 19),(g0 20),(g0 21),(g0 22),(g0 23),(g0 24),(g0 25)],defers:=[] }∧h=h'∧n'=xs.length - k.toNat∧(0≤k∧k≤(xs.length:Nat))∧xs.take k.toNat=ys.take k.toNat) ?_ (xs.length - (0:Int).toNat) ⟨0,(fun i=>([vU,vU,vU,vU,(vB false),vZ,vU,vU,vU,vU,vU,vU,vU,vU,vZ,vZ,vZ,vZ,vZ,vZ,vZ,vZ,vZ,vZ,vZ,vZ]:List Value).getD i undef),by as_aux_lemma=>kernel_rfl,rfl,rfl,by omega,rfl⟩
  rintro n' _ _ ⟨k,g0,rfl,rfl,m2,i3,i4⟩
  by_cases c5:((k):Int) < ((xs.length:Nat))
  ·obtain ⟨i6,v7,e8,l9,g10⟩:=list_at xs (e:=(k)) (by omega) (by first | omega | (simp only [List.length_set,List.length_append,List.length_singleton]; omega))
   obtain ⟨b11,o12,k13,q14,a15⟩:=hl.at effc_size g10
   obtain ⟨i17,v18,e19,l20,g21⟩:=list_at ys (e:=(k)) (by omega) (by first | omega | (simp only [List.length_set,List.length_append,List.length_singleton]; omega))
   obtain ⟨b22,o23,k24,q25,a26⟩:=hm.at effc_size g21
   by_cases c27:(((v7.sg):Int)=(v18.sg)∧((v7.sp):Int)=(v18.sp)∧((v7.ph):Int)=(v18.ph))
   ·refine wc_ev [ltT 4 0 3 c5,evV 6 2 (vP b11 o12) (show indexAddrA Tryz.prog 42 (vL sa xs.length ca) (vI k)=some (vP b11 o12) from a15 und42 size33 e8),evV 6 3 (vA #[(vI v7.sg),(vI v7.sp),(vI v7.ph)]) (show loadT Tryz.prog h 33 (vP b11 o12)=some (vA #[(vI v7.sg),(vI v7.sp),(vI v7.ph)]) from (k13.keep fun b r _ q=>(Ext.refl h) b r q).agg (j:=0) agg33 size33 (show 0 + 3≤3 by decide) (by kernel_rfl)),evV 6 6 (vP b22 o23) (show indexAddrA Tryz.prog 42 (vL sb ys.length cb) (vI k)=some (vP b22 o23) from a26 und42 size33 e19),evV 6 7 (vA #[(vI v18.sg),(vI v18.sp),(vI v18.ph)]) (show loadT Tryz.prog h 33 (vP b22 o23)=some (vA #[(vI v18.sg),(vI v18.sp),(vI v18.ph)]) from (k24.keep fun b r _ q=>(Ext.refl h) b r q).agg (j:=0) agg33 size33 (show 0 + 3≤3 by decide) (by kernel_rfl)),evQ 6 8 (cmp33_neq (decide_eq_false (not_not_intro c27))),evV 8 0 (vI ((k) + 1)) (show binA Tryz.prog .add 3 (vI k) (vI 1)=some (vI ((k) + 1)) from add_i64 (by omega) (by omega))] .normal h [(14,(vB true)),(15,(vI k)),(5,(vI k)),(16,(vL sa xs.length ca)),(17,(vI k)),(18,(vP b11 o12)),(19,(vA #[(vI v7.sg),(vI v7.sp),(vI v7.ph)])),(20,(vL sb ys.length cb)),(21,(vI k)),(22,(vP b22 o23)),(23,(vA #[(vI v18.sg),(vI v18.sp),(vI v18.ph)])),(24,(vB false)),(25,(vI ((k) + 1))),(13,(vI ((k) + 1)))] ?_
    exact ⟨xs.length - (k + 1).toNat,by omega,⟨k + 1,(fun i=>([vU,vU,vU,vU,(g0 4),(vI k),vU,vU,vU,vU,vU,vU,vU,vU,(vB true),(vI k),(vL sa xs.length ca),(vI k),(vP b11 o12),(vA #[(vI v7.sg),(vI v7.sp),(vI v7.ph)]),(vL sb ys.length cb),(vI k),(vP b22 o23),(vA #[(vI v18.sg),(vI v18.sp),(vI v18.ph)]),(vB false),(vI ((k) + 1))]:List Value).getD i undef),by as_aux_lemma=>kernel_rfl,rfl,rfl,by omega,by rw [show (k + 1).toNat=i6 + 1 by omega,List.take_add_one,List.take_add_one,g10,show i6=i17 by omega,g21,show i17=k.toNat by omega,i4,show v7=v18 from EffM.ext' c27]⟩⟩
   ·refine wc_ev [ltT 4 0 3 c5,evV 6 2 (vP b11 o12) (show indexAddrA Tryz.prog 42 (vL sa xs.length ca) (vI k)=some (vP b11 o12) from a15 und42 size33 e8),evV 6 3 (vA #[(vI v7.sg),(vI v7.sp),(vI v7.ph)]) (show loadT Tryz.prog h 33 (vP b11 o12)=some (vA #[(vI v7.sg),(vI v7.sp),(vI v7.ph)]) from (k13.keep fun b r _ q=>(Ext.refl h) b r q).agg (j:=0) agg33 size33 (show 0 + 3≤3 by decide) (by kernel_rfl)),evV 6 6 (vP b22 o23) (show indexAddrA Tryz.prog 42 (vL sb ys.length cb) (vI k)=some (vP b22 o23) from a26 und42 size33 e19),evV 6 7 (vA #[(vI v18.sg),(vI v18.sp),(vI v18.ph)]) (show loadT Tryz.prog h 33 (vP b22 o23)=some (vA #[(vI v18.sg),(vI v18.sp),(vI v18.ph)]) from (k24.keep fun b r _ q=>(Ext.refl h) b r q).agg (j:=0) agg33 size33 (show 0 + 3≤3 by decide) (by kernel_rfl)),evQ 6 8 (cmp33_neq (decide_eq_true c27))] .ret h [(14,(vB true)),(15,(vI k)),(5,(vI k)),(16,(vL sa xs.length ca)),(17,(vI k)),(18,(vP b11 o12)),(19,(vA #[(vI v7.sg),(vI v7.sp),(vI v7.ph)])),(20,(vL sb ys.length cb)),(21,(vI k)),(22,(vP b22 o23)),(23,(vA #[(vI v18.sg),(vI v18.sp),(vI v18.ph)])),(24,(vB true)),(4,(vB false))] ?_
    have n9:¬ xs=ys:=by intro w; subst w; have e9:i6=i17:=(by omega); subst e9; rw [g10] at g21; cases g21; exact c27 ⟨rfl,rfl,rfl⟩
    exact end_ev [] (vB false) (hK _ _ (⟨by rw [decide_eq_false n9],rfl⟩))
  ·refine wc_ev [ltF 4 0 3 c5] (.exit 0) h [(14,(vB false))] ?_
   refine wc_ev [] .ret h [(4,(vB true))] ?_
   have e9:=i4
   rw [List.take_of_length_le (by omega),List.take_of_length_le (by omega)] at e9
   exact end_ev [] (vB true) (hK _ _ (⟨by rw [decide_eq_true e9],rfl⟩))
 ·refine wc_ev [neT 1 4 3 c1] .ret h [(6,(vL sa xs.length ca)),(7,(vI ((xs.length:Nat)))),(8,(vL sb ys.length cb)),(9,(vI ((ys.length:Nat)))),(10,(vB true)),(4,(vB false))] ?_
  exact end_ev [] (vB false) (hK _ _ (⟨by rw [decide_eq_false (fun w=>c1 (by rw [w]))],rfl⟩))
theorem startE_zero {m:Tab} {k n:Int} {d:DefM} (h:startE m k d n=0):(1≤k∧k≤9999)∧(0≤n∧n≤2147483648)∧defB d=true∧findK m k=none∧m.length < 64:=by
 unfold startE at h
 split at h
 ·rename_i q
  split at h
  ·rename_i w; exact ⟨q.1,q.2,w,addE_zero h⟩
  ·cases h
 ·cases h
theorem putE_zero {m:Tab} {k:Int} {s:SagaM} (h:putE m k s=0):(1≤k∧k≤9999)∧chkS s=0∧findK m k=none∧m.length < 64:=by
 unfold putE at h
 split at h
 ·rename_i q
  split at h
  ·rename_i w; exact ⟨q,w,addE_zero h⟩
  ·rename_i w; exact absurd h w
 ·cases h
theorem WfT.start {m:Tab} (w:WfT m) (k:Int) (d:DefM) (n:Int):WfT (startM m k d n):=by
 unfold startM
 split
 ·rename_i h
  obtain ⟨h1,h2,h3,h4,h5⟩:=startE_zero h
  exact w.ins h1 (sta_ok (by unfold staE; rw [if_pos h3,if_pos h2])) h4 h5
 ·exact w
theorem WfT.put {m:Tab} (w:WfT m) (k:Int) (s:SagaM):WfT (putM m k s):=by
 unfold putM
 split
 ·rename_i h
  obtain ⟨h1,h2,h4,h5⟩:=putE_zero h
  exact w.ins h1 h2 h4 h5
 ·exact w
theorem canTE_zero {m:Tab} {k:Int} (h:canTE m k=0):findK m k=some (getS m k)∧canE (getS m k)=0:=by
 unfold canTE at h
 split at h
 ·rename_i q; exact ⟨getE_zero q,h⟩
 ·cases h
theorem resTE_zero {m:Tab} {k e1 e2 e3 res now:Int} (h:resTE m k e1 e2 e3 res now=0):findK m k=some (getS m k)∧resE (getS m k) (effD e1 k) e2 e3 res now=0:=by
 unfold resTE at h
 split at h
 ·rename_i q; exact ⟨getE_zero q,h⟩
 ·cases h
theorem WfT.can {m:Tab} (w:WfT m) (k:Int):WfT (canTM m k):=by
 unfold canTM
 split
 ·rename_i h
  obtain ⟨h1,h2⟩:=canTE_zero h
  exact w.set (can_ok h2) h1
 ·exact w
theorem WfT.res {m:Tab} (w:WfT m) (k e1 e2 e3 res now:Int):WfT (resTM m k e1 e2 e3 res now):=by
 unfold resTM
 split
 ·rename_i h
  obtain ⟨h1,h2⟩:=resTE_zero h
  have q:=resE_zero h2
  exact w.set (nxt_ok q.1 q.2.1 q.2.2.2.1) h1
 ·exact w
theorem opnL_len (m:Tab):(opnL m).length≤m.length:=by unfold opnL; rw [List.length_map]; exact opn_len m
theorem nxtL_len (m:Tab):(nxtL m).length≤m.length:=by unfold nxtL; rw [List.length_map]; exact opn_len m
def exaX:List StepM:=[⟨⟨#[97]⟩,1⟩,⟨⟨#[98]⟩,-2⟩]
def exaD:DefM:=⟨⟨#[100]⟩,0,0,exaX⟩
theorem lat_row {h:Heap} {b n:Nat} {xs:List StepM} {c:Array Value} (k:h[b]?=some (.cells c 67 (0,0))) (e:c=flat stepc xs) (hn:xs.length=n):LAt h stepc 2 xs (.slice (some ⟨b,0,none⟩) n n):=by
 refine ⟨sl_row k stepc_size e hn,fun q hq=>?_⟩
 cases hq; simp [slackElem,k]
set_option maxHeartbeats 4000000 in
theorem exa_ok (h:Heap) :WCall Tryz.prog 29 #[] h (fun v h1=>∃ b,v=(Value.agg #[(vS exaD.name),(vI (exaD.rt)),(vI (exaD.dl)),(Value.slice (some ⟨b,0,none⟩) 2 2)])∧h1[b]?=some (.cells #[(vS ⟨#[97]⟩),(vI 1),(vS ⟨#[98]⟩),(vI (-2))] 67 (0,0))∧Ext h h1∧h.size≤b):=by
 obtain ⟨b1,eb2⟩:∃ zq,zq=h.size:=⟨_,rfl⟩
 obtain ⟨h3,e4⟩:∃ zq,zq=h.push (.cells #[(vS .empty),(vI 0),(vI 0),(Value.slice none 0 0)] 31 (0,0)):=⟨_,rfl⟩
 have f5:=push_new e4
 rw [← eb2] at f5
 have x6:Ext h h3:=by rw [e4]; exact Ext.push _ _
 have o7:h.size≤b1:=by have:=(Ext.refl h).size; omega
 have x8:=(Ext.refl h).trans x6
 obtain ⟨b9,eb10⟩:∃ zq,zq=h3.size:=⟨_,rfl⟩
 obtain ⟨h11,e12⟩:∃ zq,zq=h3.push (.cells #[(vS ⟨#[97]⟩),(vI 1),(vS ⟨#[98]⟩),(vI (-2))] 67 (0,0)):=⟨_,rfl⟩
 have f13:=push_new e12
 rw [← eb10] at f13
 have n14:b9 ≠ b1:=by have:=row_lt f5; omega
 have x15:Ext h3 h11:=by rw [e12]; exact Ext.push _ _
 have o16:h.size≤b9:=by have:=x8.size; omega
 have f17:=x15 _ _ f5
 have x18:=x8.trans x15
 obtain ⟨h19,e20⟩:∃ zq,zq=h11.setIfInBounds b1 (.cells #[(vS ⟨#[100]⟩),(vI 0),(vI 0),(Value.slice (some ⟨b9,0,none⟩) 2 2)] 31 (0,0)):=⟨_,rfl⟩
 have f21:=set_same e20 f17
 have f22:=set_other e20 f13 n14.symm
 have x23:=Ext.setNew x18 e20 o7
 exact hCall_ev [evA 0 0 eb2 e4,evS 1 2 2 eb10 e12,evUw 1 4 size31 f17 e20] [evLw 0 0 agg31 size31 f21] (vA #[(vS ⟨#[100]⟩),(vI 0),(vI 0),(vL (some ⟨b9,0,none⟩) 2 2)]) h19 ⟨b9,rfl,f22,x23,o16⟩
/-- A deed, by numbers. -/
structure DeedM where
 kd:Int
 id:Int
 rs:Int
 nw:Int
def deedc (x:DeedM):Array Value:=#[.int .u8 x.kd,.int .u8 x.id,.int .u8 x.rs,.int .u8 x.nw]
def DOk (x:DeedM):Prop:=(0≤x.kd∧x.kd≤255)∧(0≤x.id∧x.id≤255)∧(0≤x.rs∧x.rs≤255)∧(0≤x.nw∧x.nw≤255)
/-- What skaldlaw29.Deed).result gives. -/
def resD (x:DeedM):Int:=if ((x.rs):Int) < 160 then 0 else (1 + (Int.tmod (x.rs) 18))
set_option maxRecDepth 10000 in
set_option maxHeartbeats 4000000 in
theorem works_ok (h:Heap) (hg0:h[0]?=some (.cells #[(vI 0),(vI 1),(vI 3),(vI 2)] 128 (0,0))) (hg1:h[1]?=some (.cells #[Value.nilFunc,(Value.func (.func 178) #[] #[]),(Value.func (.func 179) #[] #[]),(Value.func (.func 180) #[] #[])] 130 (0,0))):WCall Tryz.prog 11 #[] h (fun v h1=>v=.bool true∧Ext h h1):=by
 refine wcall_by fun K hK=>?_
 refine wcall_at { tmps:=#[vZ,vZ,vZ,vZ,vZ,vZ,vZ,vZ,vZ,vZ,vZ,vZ,vZ,vZ,vZ,vZ,vZ,vZ,vZ,vZ,vZ,vZ,vZ,vZ,vZ,vZ,vZ,vZ,vZ,vZ,vZ,vZ,vZ,vZ,vZ,vZ,vZ,vZ,vZ,vZ,vZ,vZ,vZ,vZ,vZ,vZ,vZ,vZ,vZ,vZ,vZ,vZ,vZ,vZ,vZ,vZ,vZ,vZ,vZ,vZ,vZ,vZ,vZ,vZ,vZ,vZ,vZ,vZ,vZ,vZ,vZ,vZ,vZ,vZ,vZ,vZ,vZ,vZ,vZ,vZ,vZ,vZ],defers:=[] } (by kernel_rfl) ?_
 obtain ⟨_,h2,s3,b4,O5313,rfl,p5,x6,w7⟩:=tnew_ok h
 have x8:=(Ext.refl h).trans x6
 have z9:h.size≤h.size:=(Ext.refl h).size
 have o10:∀ zz,O5313 zz→h.size≤zz:=fun zz hz=>by have:=w7 zz hz; omega
 obtain ⟨_,h11,s12,b13,rfl,f14,x15,o16⟩:=exa_ok h2
 have:exaD.xs.length=2:=rfl
 have oo17:h.size≤b13:=by have:=x8.size; omega
 have p18:=p5.keep fun b r _ q=>x15 b r q
 have x19:=x8.trans x15
 obtain ⟨_,h20,s21,rfl,x22,O5335,p23,o24⟩:=tstart_ok h11 p18 WfT.nil 7 exaD _ _ (lat_row (xs:=exaX) f14 (by kernel_rfl) rfl) (by omega) 0
 have k25:=WfT.start WfT.nil 7 exaD 0
 have e26:startE ([]:Tab) 7 exaD 0=0:=by kernel_rfl
 rw [e26] at s21
 have e27:(startM ([]:Tab) 7 exaD 0)=([(7,⟨exaD,1,0,false,0,0,0⟩)]:Tab):=by kernel_rfl
 rw [e27] at p23 k25
 have z28:h.size≤h11.size:=x19.size
 have x29:Ext h _:=(Chg.then (O:=fun _=>False) (Chg.ext x19) x22 (fun b hb=>.inr (o10 b hb))).toExt'
 have z30:h.size≤h11.size:=x19.size
 have o31:∀ zz,O5335 zz→h.size≤zz:=fun zz hz=>by rcases o24 zz hz with g | g; (exact o10 zz g); omega
 obtain ⟨_,h32,s33,b34,rfl,f35,x36,o37⟩:=exa_ok h20
 have:exaD.xs.length=2:=rfl
 have oo38:h.size≤b34:=by have:=x29.size; omega
 have p39:=p23.keep fun b r _ q=>x36 b r q
 have x40:=x29.trans x36
 obtain ⟨_,h41,s42,rfl,x43,O5365,p44,o45⟩:=tstart_ok h32 p39 k25 3 exaD _ _ (lat_row (xs:=exaX) f35 (by kernel_rfl) rfl) (by omega) 0
 have k46:=WfT.start k25 3 exaD 0
 have e47:startE ([(7,⟨exaD,1,0,false,0,0,0⟩)]:Tab) 3 exaD 0=0:=by kernel_rfl
 rw [e47] at s42
 have e48:(startM ([(7,⟨exaD,1,0,false,0,0,0⟩)]:Tab) 3 exaD 0)=([(3,⟨exaD,1,0,false,0,0,0⟩),(7,⟨exaD,1,0,false,0,0,0⟩)]:Tab):=by kernel_rfl
 rw [e48] at p44 k46
 have z49:h.size≤h32.size:=x40.size
 have x50:Ext h _:=(Chg.then (O:=fun _=>False) (Chg.ext x40) x43 (fun b hb=>.inr (o31 b hb))).toExt'
 have z51:h.size≤h32.size:=x40.size
 have o52:∀ zz,O5365 zz→h.size≤zz:=fun zz hz=>by rcases o45 zz hz with g | g; (exact o31 zz g); omega
 obtain ⟨_,h53,s54,rfl,x55,O5384,p56,o57⟩:=tresult_ok h41 p44 k46 7 7 0 1 0 1 (x50 _ _ hg0) (x50 _ _ hg1)
 have k58:=WfT.res k46 7 7 0 1 0 1
 have e59:resTE ([(3,⟨exaD,1,0,false,0,0,0⟩),(7,⟨exaD,1,0,false,0,0,0⟩)]:Tab) 7 7 0 1 0 1=0:=by kernel_rfl
 rw [e59] at s54
 have e60:(resTM ([(3,⟨exaD,1,0,false,0,0,0⟩),(7,⟨exaD,1,0,false,0,0,0⟩)]:Tab) 7 7 0 1 0 1)=([(3,⟨exaD,1,0,false,0,0,0⟩),(7,⟨exaD,1,1,false,0,0,0⟩)]:Tab):=by kernel_rfl
 rw [e60] at p56 k58
 have z61:h.size≤h41.size:=x50.size
 have x62:Ext h _:=(Chg.then (O:=fun _=>False) (Chg.ext x50) x55 (fun b hb=>.inr (o52 b hb))).toExt'
 have z63:h.size≤h41.size:=x50.size
 have o64:∀ zz,O5384 zz→h.size≤zz:=fun zz hz=>by rcases o57 zz hz with g | g; (exact o52 zz g); omega
 obtain ⟨_,h65,s66,w67,c68,rfl,o69,x70,n71⟩:=tnext_ok h53 p56 k58 (x62 _ _ hg0) (x62 _ _ hg1)
 have e72:(nxtL ([(3,⟨exaD,1,0,false,0,0,0⟩),(7,⟨exaD,1,1,false,0,0,0⟩)]:Tab))=([⟨3,0,1⟩,⟨7,1,1⟩]:List EffM):=by kernel_rfl
 rw [e72] at s66 o69 n71
 have z73:([⟨3,0,1⟩,⟨7,1,1⟩]:List EffM).length=2:=rfl
 have p74:=p56.keep fun b r _ q=>x70 b r q
 have x75:=x62.trans x70
 have z76:h.size≤h53.size:=x62.size
 have n77:∀ zz,blk (Value.slice w67 (([⟨3,0,1⟩,⟨7,1,1⟩]:List EffM).length) (c68)) zz→¬ O5384 zz:=fun zz hz ez=>by have:=n71 zz hz; have:=p56.blk_lt ez; omega
 have o78:∀ zz,blk (Value.slice w67 (([⟨3,0,1⟩,⟨7,1,1⟩]:List EffM).length) (c68)) zz→h.size≤zz:=fun zz hz=>by have:=n71 zz hz; omega
 obtain ⟨_,h79,s80,rfl,x81,O5424,p82,o83⟩:=tresult_ok h65 p74 k58 3 7 1 1 0 1 (x75 _ _ hg0) (x75 _ _ hg1)
 have k84:=WfT.res k58 3 7 1 1 0 1
 have e85:resTE ([(3,⟨exaD,1,0,false,0,0,0⟩),(7,⟨exaD,1,1,false,0,0,0⟩)]:Tab) 3 7 1 1 0 1=8:=by kernel_rfl
 rw [e85] at s80
 have e86:(resTM ([(3,⟨exaD,1,0,false,0,0,0⟩),(7,⟨exaD,1,1,false,0,0,0⟩)]:Tab) 3 7 1 1 0 1)=([(3,⟨exaD,1,0,false,0,0,0⟩),(7,⟨exaD,1,1,false,0,0,0⟩)]:Tab):=by kernel_rfl
 rw [e86] at p82 k84
 have z87:h.size≤h65.size:=x75.size
 have x88:Ext h _:=(Chg.then (O:=fun _=>False) (Chg.ext x75) x81 (fun b hb=>.inr (o64 b hb))).toExt'
 have p89:=o69.keep fun b r hb q=>x81.same b r q (n77 b hb)
 have z90:h.size≤h65.size:=x75.size
 have n91:∀ zz,O5424 zz→¬ (blk (Value.slice w67 (([⟨3,0,1⟩,⟨7,1,1⟩]:List EffM).length) (c68))) zz:=fun zz hz ez=>by rcases o83 zz hz with g | g; (exact n77 _ ez g); have:=o69.blk_lt ez; omega
 have o92:∀ zz,O5424 zz→h.size≤zz:=fun zz hz=>by rcases o83 zz hz with g | g; (exact o64 zz g); omega
 obtain ⟨_,h93,s94,rfl,x95,O5445,p96,o97⟩:=tresult_ok h79 p82 k84 3 3 0 1 7 2 (x88 _ _ hg0) (x88 _ _ hg1)
 have k98:=WfT.res k84 3 3 0 1 7 2
 have e99:resTE ([(3,⟨exaD,1,0,false,0,0,0⟩),(7,⟨exaD,1,1,false,0,0,0⟩)]:Tab) 3 3 0 1 7 2=0:=by kernel_rfl
 rw [e99] at s94
 have e100:(resTM ([(3,⟨exaD,1,0,false,0,0,0⟩),(7,⟨exaD,1,1,false,0,0,0⟩)]:Tab) 3 3 0 1 7 2)=([(3,⟨exaD,5,0,false,0,0,7⟩),(7,⟨exaD,1,1,false,0,0,0⟩)]:Tab):=by kernel_rfl
 rw [e100] at p96 k98
 have z101:h.size≤h79.size:=x88.size
 have x102:Ext h _:=(Chg.then (O:=fun _=>False) (Chg.ext x88) x95 (fun b hb=>.inr (o92 b hb))).toExt'
 have p103:=p89.keep fun b r hb q=>x95.same b r q ((fun b hb hb2=>n91 b hb2 hb) b hb)
 have z104:h.size≤h79.size:=x88.size
 have o105:∀ zz,O5445 zz→h.size≤zz:=fun zz hz=>by rcases o97 zz hz with g | g; (exact o92 zz g); omega
 obtain ⟨b106,eb107⟩:∃ zq,zq=h93.size:=⟨_,rfl⟩
 obtain ⟨h108,e109⟩:∃ zq,zq=h93.push (.cells #[(vI 3),(vI 0),(vI 1),(vI 7),(vI 1),(vI 1)] 33 (0,0)):=⟨_,rfl⟩
 have f110:=push_new e109
 rw [← eb107] at f110
 have x111:Ext h93 h108:=by rw [e109]; exact Ext.push _ _
 have o112:h.size≤b106:=by have:=x102.size; omega
 have p113:=p96.keep fun b r _ q=>x111 b r q
 have p114:=p103.keep fun b r _ q=>x111 b r q
 have x115:=x102.trans x111
 obtain ⟨_,_,s116,rfl,rfl⟩:=eqE_ok h108 ([⟨3,0,1⟩,⟨7,1,1⟩]:List EffM) ([(EffM.mk 3 0 1),(EffM.mk 7 1 1)]:List EffM) _ _ _ _ (p114.slice effc_size) (sl_row (xs:=([(EffM.mk 3 0 1),(EffM.mk 7 1 1)]:List EffM)) f110 effc_size (by kernel_rfl) rfl) (by decide)
 obtain ⟨_,h117,s118,w119,c120,rfl,o121,x122,n123⟩:=ids_ok h108 p113 k98
 have e124:(idsL ([(3,⟨exaD,5,0,false,0,0,7⟩),(7,⟨exaD,1,1,false,0,0,0⟩)]:Tab))=([3,7]:List Int):=by kernel_rfl
 rw [e124] at s118 o121 n123
 have z125:([3,7]:List Int).length=2:=rfl
 have p126:=p113.keep fun b r _ q=>x122 b r q
 have x127:=x115.trans x122
 have z128:h.size≤h108.size:=x115.size
 have o129:∀ zz,blk (Value.slice w119 (([3,7]:List Int).length) (c120)) zz→h.size≤zz:=fun zz hz=>by have:=n123 zz hz; omega
 obtain ⟨b130,eb131⟩:∃ zq,zq=h117.size:=⟨_,rfl⟩
 obtain ⟨h132,e133⟩:∃ zq,zq=h117.push (.cells #[(vI 3),(vI 7)] 3 (0,0)):=⟨_,rfl⟩
 have f134:=push_new e133
 rw [← eb131] at f134
 have x135:Ext h117 h132:=by rw [e133]; exact Ext.push _ _
 have o136:h.size≤b130:=by have:=x127.size; omega
 have p137:=p126.keep fun b r _ q=>x135 b r q
 have p138:=o121.keep fun b r _ q=>x135 b r q
 have x139:=x127.trans x135
 obtain ⟨_,_,s140,rfl,rfl⟩:=eqI_ok h132 ([3,7]:List Int) ([3,7]:List Int) _ _ _ _ (p138.slice zc_size) (sl_row (xs:=([3,7]:List Int)) f134 zc_size (by kernel_rfl) rfl) (by decide)
 obtain ⟨_,h141,s142,w143,c144,rfl,o145,x146,n147⟩:=open_ok h132 p137 k98 (x139 _ _ hg0) (x139 _ _ hg1)
 have e148:(opnL ([(3,⟨exaD,5,0,false,0,0,7⟩),(7,⟨exaD,1,1,false,0,0,0⟩)]:Tab))=([7]:List Int):=by kernel_rfl
 rw [e148] at s142 o145 n147
 have z149:([7]:List Int).length=1:=rfl
 have p150:=p137.keep fun b r _ q=>x146 b r q
 have x151:=x139.trans x146
 have z152:h.size≤h132.size:=x139.size
 have o153:∀ zz,blk (Value.slice w143 (([7]:List Int).length) (c144)) zz→h.size≤zz:=fun zz hz=>by have:=n147 zz hz; omega
 obtain ⟨b154,eb155⟩:∃ zq,zq=h141.size:=⟨_,rfl⟩
 obtain ⟨h156,e157⟩:∃ zq,zq=h141.push (.cells #[(vI 7)] 3 (0,0)):=⟨_,rfl⟩
 have f158:=push_new e157
 rw [← eb155] at f158
 have x159:Ext h141 h156:=by rw [e157]; exact Ext.push _ _
 have o160:h.size≤b154:=by have:=x151.size; omega
 have p161:=p150.keep fun b r _ q=>x159 b r q
 have p162:=o145.keep fun b r _ q=>x159 b r q
 have x163:=x151.trans x159
 obtain ⟨_,_,s164,rfl,rfl⟩:=eqI_ok h156 ([7]:List Int) ([7]:List Int) _ _ _ _ (p162.slice zc_size) (sl_row (xs:=([7]:List Int)) f158 zc_size (by kernel_rfl) rfl) (by decide)
 obtain ⟨_,h165,s166,rfl,x167⟩:=quiet_ok h156 p161 k98 (x163 _ _ hg0) (x163 _ _ hg1)
 have p168:=p161.keep fun b r _ q=>x167 b r q
 have x169:=x163.trans x167
 have e170:quietT ([(3,⟨exaD,5,0,false,0,0,7⟩),(7,⟨exaD,1,1,false,0,0,0⟩)]:Tab)=false:=by kernel_rfl
 rw [e170] at s166
 obtain ⟨_,h171,s172,rfl,x173,O5603,p174,o175⟩:=tcancel_ok h165 p168 k98 3
 have k176:=WfT.can k98 3
 have e177:canTE ([(3,⟨exaD,5,0,false,0,0,7⟩),(7,⟨exaD,1,1,false,0,0,0⟩)]:Tab) 3=9:=by kernel_rfl
 rw [e177] at s172
 have e178:(canTM ([(3,⟨exaD,5,0,false,0,0,7⟩),(7,⟨exaD,1,1,false,0,0,0⟩)]:Tab) 3)=([(3,⟨exaD,5,0,false,0,0,7⟩),(7,⟨exaD,1,1,false,0,0,0⟩)]:Tab):=by kernel_rfl
 rw [e178] at p174 k176
 have z179:h.size≤h165.size:=x169.size
 have x180:Ext h _:=(Chg.then (O:=fun _=>False) (Chg.ext x169) x173 (fun b hb=>.inr (o105 b hb))).toExt'
 have z181:h.size≤h165.size:=x169.size
 have o182:∀ zz,O5603 zz→h.size≤zz:=fun zz hz=>by rcases o175 zz hz with g | g; (exact o105 zz g); omega
 obtain ⟨_,h183,s184,rfl,x185,O5634,p186,o187⟩:=tcancel_ok h171 p174 k176 7
 have k188:=WfT.can k176 7
 have e189:canTE ([(3,⟨exaD,5,0,false,0,0,7⟩),(7,⟨exaD,1,1,false,0,0,0⟩)]:Tab) 7=0:=by kernel_rfl
 rw [e189] at s184
 have e190:(canTM ([(3,⟨exaD,5,0,false,0,0,7⟩),(7,⟨exaD,1,1,false,0,0,0⟩)]:Tab) 7)=([(3,⟨exaD,5,0,false,0,0,7⟩),(7,⟨exaD,1,1,true,0,0,0⟩)]:Tab):=by kernel_rfl
 rw [e190] at p186 k188
 have z191:h.size≤h171.size:=x180.size
 have x192:Ext h _:=(Chg.then (O:=fun _=>False) (Chg.ext x180) x185 (fun b hb=>.inr (o182 b hb))).toExt'
 have z193:h.size≤h171.size:=x180.size
 have o194:∀ zz,O5634 zz→h.size≤zz:=fun zz hz=>by rcases o187 zz hz with g | g; (exact o182 zz g); omega
 obtain ⟨_,h195,s196,b197,rfl,f198,x199,o200⟩:=exa_ok h183
 have:exaD.xs.length=2:=rfl
 have oo201:h.size≤b197:=by have:=x192.size; omega
 have p202:=p186.keep fun b r _ q=>x199 b r q
 have x203:=x192.trans x199
 obtain ⟨_,h204,s205,rfl,x206,O5692,p207,o208⟩:=tstart_ok h195 p202 k188 3 exaD _ _ (lat_row (xs:=exaX) f198 (by kernel_rfl) rfl) (by omega) 0
 have k209:=WfT.start k188 3 exaD 0
 have e210:startE ([(3,⟨exaD,5,0,false,0,0,7⟩),(7,⟨exaD,1,1,true,0,0,0⟩)]:Tab) 3 exaD 0=6:=by kernel_rfl
 rw [e210] at s205
 have e211:(startM ([(3,⟨exaD,5,0,false,0,0,7⟩),(7,⟨exaD,1,1,true,0,0,0⟩)]:Tab) 3 exaD 0)=([(3,⟨exaD,5,0,false,0,0,7⟩),(7,⟨exaD,1,1,true,0,0,0⟩)]:Tab):=by kernel_rfl
 rw [e211] at p207 k209
 have z212:h.size≤h195.size:=x203.size
 have x213:Ext h _:=(Chg.then (O:=fun _=>False) (Chg.ext x203) x206 (fun b hb=>.inr (o194 b hb))).toExt'
 have z214:h.size≤h195.size:=x203.size
 have o215:∀ zz,O5692 zz→h.size≤zz:=fun zz hz=>by rcases o208 zz hz with g | g; (exact o194 zz g); omega
 refine wc_ev [evF 1 0 s3,evF 2 4 s12,evF 2 5 s21,evF 2 10 s33,evF 2 11 s42,evF 4 2 s54,evF 5 1 s66,evF 6 2 s80,evF 7 2 s94,evS 8 6 2 eb107 e109,evFt 8 7 (show ([⟨3,0,1⟩,⟨7,1,1⟩]:List EffM)=([(EffM.mk 3 0 1),(EffM.mk 7 1 1)]:List EffM) by decide +kernel) s116,evF 8 19 s118,evS 8 20 2 eb131 e133,evFt 8 21 (Eq.refl _) s140,evF 8 25 s142,evS 8 26 1 eb155 e157,evFt 8 27 (Eq.refl _) s164,evF 8 31 s166,evF 8 36 s172,evF 8 41 s184,evF 8 46 s196,evF 8 47 s205] .ret h204 [(0,(vB false)),(6,(vP b4 0)),(1,(vP b4 0)),(7,(vP b4 0)),(8,(vB false)),(9,(vB false)),(10,(vP b4 0)),(11,(vA #[(vS exaD.name),(vI exaD.rt),(vI exaD.dl),(vL (some ⟨b13,0,none⟩) 2 2)])),(12,(vI 0)),(13,(vB false)),(14,(vB false)),(15,(vB false)),(16,(vP b4 0)),(17,(vA #[(vS exaD.name),(vI exaD.rt),(vI exaD.dl),(vL (some ⟨b34,0,none⟩) 2 2)])),(18,(vI 0)),(19,(vB false)),(20,(vB false)),(21,(vP b4 0)),(22,(vA #[(vI 7),(vI 0),(vI 1)])),(23,(vI 0)),(2,(vI 0)),(24,(vP b4 0)),(25,(vL w67 (([⟨3,0,1⟩,⟨7,1,1⟩]:List EffM).length) c68)),(3,(vL w67 (([⟨3,0,1⟩,⟨7,1,1⟩]:List EffM).length) c68)),(26,(vP b4 0)),(27,(vA #[(vI 7),(vI 1),(vI 1)])),(28,(vI 8)),(4,(vI 8)),(29,(vP b4 0)),(30,(vA #[(vI 3),(vI 0),(vI 1)])),(31,(vI 0)),(5,(vI 0)),(32,(vI 0)),(33,(vB true)),(34,(vB true)),(35,(vL w67 (([⟨3,0,1⟩,⟨7,1,1⟩]:List EffM).length) c68)),(36,(vA #[(vI 3),(vI 0),(vI 1)])),(37,(vA #[(vI 7),(vI 1),(vI 1)])),(38,(vL (some ⟨b106,0,none⟩) 2 2)),(39,(vB true)),(40,(vB true)),(41,(vB true)),(42,(vI 8)),(43,(vB true)),(44,(vB true)),(45,(vB true)),(46,(vI 0)),(47,(vB true)),(48,(vB true)),(49,(vB true)),(50,(vP b4 0)),(51,(vL w119 (([3,7]:List Int).length) c120)),(52,(vL (some ⟨b130,0,none⟩) 2 2)),(53,(vB true)),(54,(vB true)),(55,(vB true)),(56,(vP b4 0)),(57,(vL w143 (([7]:List Int).length) c144)),(58,(vL (some ⟨b154,0,none⟩) 1 1)),(59,(vB true)),(60,(vB true)),(61,(vB true)),(62,(vP b4 0)),(63,(vB false)),(64,(vB true)),(65,(vB true)),(66,(vB true)),(67,(vP b4 0)),(68,(vI 9)),(69,(vB true)),(70,(vB true)),(71,(vB true)),(72,(vP b4 0)),(73,(vI 0)),(74,(vB true)),(75,(vB true)),(76,(vB true)),(77,(vP b4 0)),(78,(vA #[(vS exaD.name),(vI exaD.rt),(vI exaD.dl),(vL (some ⟨b197,0,none⟩) 2 2)])),(79,(vI 6)),(80,(vB true)),(81,(vB true)),(0,(vB true))] ?_
 exact end_ev [] (vB true) (hK _ _ (⟨rfl,x213⟩))
end C29
