/- Sagas: what comes next. -/
import Derived.Test.YtjkcadbblgefdaaGreatDoorMa
import Derived.KernelRfl
open Go Go.AM Go.Proofs
namespace C29
theorem agg33:isAggA Tryz.prog 33=some true:=by kernel_rfl
theorem size33:(Tryz.prog.info? 33).map (·.size)=some 3:=by kernel_rfl
theorem size34:(Tryz.prog.info? 34).map (·.size)=some 1:=by kernel_rfl
/-- What saga.Next gives. -/
def nextV (s:SagaM):Int × Int × Bool × Int:=if ((chkS s):Int)=0 then (if ((s.st):Int) < 4 then (if ((s.st):Int)=1 then ((s.ix),1,true,0) else (if ((s.st):Int)=2 then ((s.ix),3,true,0) else ((s.ix),2,true,0))) else (0,0,false,0)) else (0,0,false,(chkS s))
set_option maxHeartbeats 4000000 in
theorem nextV_ok (h:Heap) (s:SagaM) (sa:Option Addr) (cp:Nat) (hl:LAt h stepc 2 s.d.xs (.slice sa s.d.xs.length cp)) (hlen:s.d.xs.length≤9223372036854775807) (hg0:h[0]?=some (.cells #[(vI 0),(vI 1),(vI 3),(vI 2)] 128 (0,0))) (hg1:h[1]?=some (.cells #[Value.nilFunc,(Value.func (.func 178) #[] #[]),(Value.func (.func 179) #[] #[]),(Value.func (.func 180) #[] #[])] 130 (0,0))):WCall Tryz.prog 42 #[(Value.agg #[(vS s.d.name),(vI (s.d.rt)),(vI (s.d.dl)),(Value.slice sa (s.d.xs.length) (cp)),(vI (s.st)),(vI (s.ix)),(vB s.cn),(vI (s.tr)),(vI (s.bg)),(vI (s.er))])] h (fun v h1=>v=(Value.tuple #[(Value.agg #[(vI 0),(vI ((nextV s).1)),(vI ((nextV s).2.1))]),(vB (nextV s).2.2.1),(vI ((nextV s).2.2.2))])∧Ext h h1):=by
 obtain ⟨b1,eb2⟩:∃ zq,zq=h.size:=⟨_,rfl⟩
 obtain ⟨h3,e4⟩:∃ zq,zq=h.push (.cells #[(vS s.d.name),(vI (s.d.rt)),(vI (s.d.dl)),(Value.slice sa (s.d.xs.length) (cp)),(vI (s.st)),(vI (s.ix)),(vB s.cn),(vI (s.tr)),(vI (s.bg)),(vI (s.er))] 38 (0,0)):=⟨_,rfl⟩
 have f5:=push_new e4
 rw [← eb2] at f5
 have x6:Ext h h3:=by rw [e4]; exact Ext.push _ _
 have o7:h.size≤b1:=by have:=(Ext.refl h).size; omega
 have x8:=(Ext.refl h).trans x6
 obtain ⟨b9,eb10⟩:∃ zq,zq=h3.size:=⟨_,rfl⟩
 obtain ⟨h11,e12⟩:∃ zq,zq=h3.push (.cells #[(vI 0),(vI 0),(vI 0)] 33 (0,0)):=⟨_,rfl⟩
 have f13:=push_new e12
 rw [← eb10] at f13
 have x14:Ext h3 h11:=by rw [e12]; exact Ext.push _ _
 have o15:h.size≤b9:=by have:=x8.size; omega
 have f17:=x14 _ _ f5
 have x18:=x8.trans x14
 obtain ⟨_,h19,s20,rfl,x21⟩:=scheck_ok h11 s _ _ (hl.keep fun b r _ q=>x18 b r q) (by omega)
 have f22:=x21 _ _ f17
 have f23:=x21 _ _ f13
 have x24:=x18.trans x21
 by_cases c25:((chkS s):Int)=0
 ·obtain ⟨z1203d,z1203b,z1203o⟩:=chkS_zero c25
  have:=defB_of z1203d
  have:=budB_of z1203b
  have z1203i:=okI_of z1203o
  have:=z1203i.1
  obtain ⟨_,h26,s27,rfl,x28⟩:=openB_ok h19 s _ _ (hl.keep fun b r _ q=>x24 b r q) (by omega)
  rw [openB_eq] at s27
  have f29:=x28 _ _ f22
  have f30:=x28 _ _ f23
  have x31:=x24.trans x28
  by_cases c32:((s.st):Int) < 4
  ·by_cases c33:((s.st):Int)=1
   ·obtain ⟨h34,e35⟩:∃ zq,zq=h26.setIfInBounds b9 (.cells #[(vI 0),(vI (s.ix)),(vI 1)] 33 (0,0)):=⟨_,rfl⟩
    have f36:=set_same e35 f30
    have x37:=Ext.setNew x31 e35 o15
    have e38:(nextV s)=((s.ix),1,true,0):=by unfold nextV; rw [if_pos c25,if_pos c32,if_pos c33]
    exact hCall_ev [evA 0 0 eb2 e4,evA 0 1 eb10 e12,evLw 1 0 agg38 size38 f17,evFi 1 1 c25 s20,evLw 2 3 agg38 size38 f22,evFt 2 4 c32 s27,evC 4 1 5 agg3 f29,evC 4 3 4 agg3 f29,evV 4 4 (vP 0 1) (show indexAddrA Tryz.prog 128 (vP 0 0) (vI s.st)=some (vP 0 1) from by rw [c33]; kernel_rfl),evC 4 5 1 agg3 (x31 _ _ hg0),evUw 4 7 size33 f30 e35] [evLw 0 0 agg33 size33 f36,evR (vB true),evR (vI 0)] (vT #[(vA #[(vI 0),(vI s.ix),(vI 1)]),(vB true),(vI 0)]) h34 ⟨by rw [e38],x37⟩
   ·by_cases c39:((s.st):Int)=2
    ·obtain ⟨h40,e41⟩:∃ zq,zq=h26.setIfInBounds b9 (.cells #[(vI 0),(vI (s.ix)),(vI 3)] 33 (0,0)):=⟨_,rfl⟩
     have f42:=set_same e41 f30
     have x43:=Ext.setNew x31 e41 o15
     have e44:(nextV s)=((s.ix),3,true,0):=by unfold nextV; rw [if_pos c25,if_pos c32,if_neg c33,if_pos c39]
     exact hCall_ev [evA 0 0 eb2 e4,evA 0 1 eb10 e12,evLw 1 0 agg38 size38 f17,evFi 1 1 c25 s20,evLw 2 3 agg38 size38 f22,evFt 2 4 c32 s27,evC 4 1 5 agg3 f29,evC 4 3 4 agg3 f29,evV 4 4 (vP 0 2) (show indexAddrA Tryz.prog 128 (vP 0 0) (vI s.st)=some (vP 0 2) from by rw [c39]; kernel_rfl),evC 4 5 2 agg3 (x31 _ _ hg0),evUw 4 7 size33 f30 e41] [evLw 0 0 agg33 size33 f42,evR (vB true),evR (vI 0)] (vT #[(vA #[(vI 0),(vI s.ix),(vI 3)]),(vB true),(vI 0)]) h40 ⟨by rw [e44],x43⟩
    ·have w45:(s.st)=3:=by omega
     obtain ⟨h46,e47⟩:∃ zq,zq=h26.setIfInBounds b9 (.cells #[(vI 0),(vI (s.ix)),(vI 2)] 33 (0,0)):=⟨_,rfl⟩
     have f48:=set_same e47 f30
     have x49:=Ext.setNew x31 e47 o15
     have e50:(nextV s)=((s.ix),2,true,0):=by unfold nextV; rw [if_pos c25,if_pos c32,if_neg c33,if_neg c39]
     exact hCall_ev [evA 0 0 eb2 e4,evA 0 1 eb10 e12,evLw 1 0 agg38 size38 f17,evFi 1 1 c25 s20,evLw 2 3 agg38 size38 f22,evFt 2 4 c32 s27,evC 4 1 5 agg3 f29,evC 4 3 4 agg3 f29,evV 4 4 (vP 0 3) (show indexAddrA Tryz.prog 128 (vP 0 0) (vI s.st)=some (vP 0 3) from by rw [w45]; kernel_rfl),evC 4 5 3 agg3 (x31 _ _ hg0),evUw 4 7 size33 f30 e47] [evLw 0 0 agg33 size33 f48,evR (vB true),evR (vI 0)] (vT #[(vA #[(vI 0),(vI s.ix),(vI 2)]),(vB true),(vI 0)]) h46 ⟨by rw [e50],x49⟩
  ·obtain ⟨h51,e52⟩:∃ zq,zq=h26.setIfInBounds b9 (.cells #[(vI 0),(vI 0),(vI 0)] 33 (0,0)):=⟨_,rfl⟩
   have f53:=set_same e52 f30
   have x54:=Ext.setNew x31 e52 o15
   have e55:(nextV s)=(0,0,false,0):=by unfold nextV; rw [if_pos c25,if_neg c32]
   exact hCall_ev [evA 0 0 eb2 e4,evA 0 1 eb10 e12,evLw 1 0 agg38 size38 f17,evFi 1 1 c25 s20,evLw 2 3 agg38 size38 f22,evFf 2 4 c32 s27,evUw 3 2 size33 f30 e52] [evLw 0 0 agg33 size33 f53,evR (vB false),evR (vI 0)] (vT #[(vA #[(vI 0),(vI 0),(vI 0)]),(vB false),(vI 0)]) h51 ⟨by rw [e55],x54⟩
 ·obtain ⟨h56,e57⟩:∃ zq,zq=h19.setIfInBounds b9 (.cells #[(vI 0),(vI 0),(vI 0)] 33 (0,0)):=⟨_,rfl⟩
  have f58:=set_same e57 f23
  have x59:=Ext.setNew x24 e57 o15
  have e60:(nextV s)=(0,0,false,(chkS s)):=by unfold nextV; rw [if_neg c25]
  exact hCall_ev [evA 0 0 eb2 e4,evA 0 1 eb10 e12,evLw 1 0 agg38 size38 f17,evF 1 1 s20,neT 2 1 34 c25,evUw 3 2 size33 f23 e57] [evLw 0 0 agg33 size33 f58,evR (vB false),evR (vI (chkS s))] (vT #[(vA #[(vI 0),(vI 0),(vI 0)]),(vB false),(vI (chkS s))]) h56 ⟨by rw [e60],x59⟩
/-- What api.Errno] gives. -/
def ixE (x:Int):Int:=if ((x):Int)=16 then 0 else (if ((x):Int)=17 then 1 else (if ((x):Int)=18 then 2 else (-1)))
set_option maxHeartbeats 4000000 in
theorem ixE_ok (h:Heap) {eb:Nat} (heb:h[eb]?=some (.cells #[(vI 16),(vI 17),(vI 18)] 34 (0,0))) (x:Int):WCall Tryz.prog 188 #[(Value.slice (some ⟨eb,0,none⟩) 3 3),(vI (x))] h (fun v h1=>v=(vI ((ixE x)))∧h=h1):=by
 refine wcall_by fun K hK=>?_
 refine wcall_at { tmps:=#[(vL (some ⟨eb,0,none⟩) 3 3),(vI x),vZ,vZ,vZ,vZ,vZ,vZ,vZ,vZ,vZ,vZ,vZ,vZ,vZ,vZ,vZ,vZ,vZ],defers:=[] } (by kernel_rfl) ?_
 refine wc_seq' (subc (bodyOf Tryz.prog 188) [0]) (subc (bodyOf Tryz.prog 188) [1]) (by kernel_rfl) ?_
 refine wc_ev [] .normal h [(4,(vI 0))] ?_
 refine wc_seq' (subc (bodyOf Tryz.prog 188) [1,0]) (subc (bodyOf Tryz.prog 188) [1,1]) (by kernel_rfl) ?_
 refine wc_seq' (subc (bodyOf Tryz.prog 188) [1,0,0]) (subc (bodyOf Tryz.prog 188) [1,0,1]) (by kernel_rfl) ?_
 refine wc_ev [] .normal h [(6,(vL (some ⟨eb,0,none⟩) 3 3)),(7,(vI 3)),(8,(vI 0))] ?_
 refine wc_block' 0 (subc (bodyOf Tryz.prog 188) [1,0,1,0]) (by kernel_rfl) ?_
 refine wc_once (subc (bodyOf Tryz.prog 188) [1,0,1,0,0]) (by kernel_rfl) ?_
 by_cases c1:((x):Int)=16
 ·refine wc_ev [evC 4 4 0 agg34 heb,eqT 4 5 34 c1] .ret h [(9,(vB true)),(10,(vI 0)),(5,(vI 0)),(11,(vI x)),(12,(vL (some ⟨eb,0,none⟩) 3 3)),(13,(vI 0)),(14,(vP eb 0)),(15,(vI 16)),(16,(vB true)),(17,(vI 0)),(4,(vI 0))] ?_
  have e2:(ixE x)=0:=by unfold ixE; rw [if_pos c1]
  exact end_ev [] (vI 0) (hK _ _ (⟨by rw [e2],rfl⟩))
 ·refine wc_ev [evC 4 4 0 agg34 heb,eqF 4 5 34 c1] .normal h [(9,(vB true)),(10,(vI 0)),(5,(vI 0)),(11,(vI x)),(12,(vL (some ⟨eb,0,none⟩) 3 3)),(13,(vI 0)),(14,(vP eb 0)),(15,(vI 16)),(16,(vB false)),(18,(vI 1)),(8,(vI 1))] ?_
  refine wc_once (subc (bodyOf Tryz.prog 188) [1,0,1,0,0]) rfl ?_
  by_cases c3:((x):Int)=17
  ·refine wc_ev [evC 4 4 1 agg34 heb,eqT 4 5 34 c3] .ret h [(9,(vB true)),(10,(vI 1)),(5,(vI 1)),(11,(vI x)),(12,(vL (some ⟨eb,0,none⟩) 3 3)),(13,(vI 1)),(14,(vP eb 1)),(15,(vI 17)),(16,(vB true)),(17,(vI 1)),(4,(vI 1))] ?_
   have e4:(ixE x)=1:=by unfold ixE; rw [if_neg c1,if_pos c3]
   exact end_ev [] (vI 1) (hK _ _ (⟨by rw [e4],rfl⟩))
  ·refine wc_ev [evC 4 4 1 agg34 heb,eqF 4 5 34 c3] .normal h [(9,(vB true)),(10,(vI 1)),(5,(vI 1)),(11,(vI x)),(12,(vL (some ⟨eb,0,none⟩) 3 3)),(13,(vI 1)),(14,(vP eb 1)),(15,(vI 17)),(16,(vB false)),(18,(vI 2)),(8,(vI 2))] ?_
   refine wc_once (subc (bodyOf Tryz.prog 188) [1,0,1,0,0]) rfl ?_
   refine wc_act { tmps:=#[(vL (some ⟨eb,0,none⟩) 3 3),(vI x),vZ,vZ,(vI 0),(vI 1),(vL (some ⟨eb,0,none⟩) 3 3),(vI 3),(vI 2),(vB true),(vI 1),(vI x),(vL (some ⟨eb,0,none⟩) 3 3),(vI 1),(vP eb 1),(vI 17),(vB false),vZ,(vI 2)],defers:=[] } (by as_aux_lemma=>kernel_rfl) ?_
   by_cases c5:((x):Int)=18
   ·refine wc_ev [evC 4 4 2 agg34 heb,eqT 4 5 34 c5] .ret h [(9,(vB true)),(10,(vI 2)),(5,(vI 2)),(11,(vI x)),(12,(vL (some ⟨eb,0,none⟩) 3 3)),(13,(vI 2)),(14,(vP eb 2)),(15,(vI 18)),(16,(vB true)),(17,(vI 2)),(4,(vI 2))] ?_
    have e6:(ixE x)=2:=by unfold ixE; rw [if_neg c1,if_neg c3,if_pos c5]
    exact end_ev [] (vI 2) (hK _ _ (⟨by rw [e6],rfl⟩))
   ·refine wc_ev [evC 4 4 2 agg34 heb,eqF 4 5 34 c5] .normal h [(9,(vB true)),(10,(vI 2)),(5,(vI 2)),(11,(vI x)),(12,(vL (some ⟨eb,0,none⟩) 3 3)),(13,(vI 2)),(14,(vP eb 2)),(15,(vI 18)),(16,(vB false)),(18,(vI 3)),(8,(vI 3))] ?_
    refine wc_once (subc (bodyOf Tryz.prog 188) [1,0,1,0,0]) rfl ?_
    refine wc_ev [] (.exit 0) h [(9,(vB false))] ?_
    refine wc_ev [] .ret h [(4,(vI (-1)))] ?_
    have e7:(ixE x)=(-1):=by unfold ixE; rw [if_neg c1,if_neg c3,if_neg c5]
    exact end_ev [] (vI (-1)) (hK _ _ (⟨by rw [e7],rfl⟩))
/-- What api.Errno] gives. -/
def ctE (x:Int):Bool:=if (0:Int)≤((ixE (x))) then true else false
set_option maxHeartbeats 4000000 in
theorem ctE_ok (h:Heap) {eb:Nat} (heb:h[eb]?=some (.cells #[(vI 16),(vI 17),(vI 18)] 34 (0,0))) (x:Int):WCall Tryz.prog 185 #[(Value.slice (some ⟨eb,0,none⟩) 3 3),(vI (x))] h (fun v h1=>v=(vB (ctE x))∧h=h1):=by
 obtain ⟨_,_,sn1,rfl,rfl⟩:=ixE_ok h heb (x) 
 by_cases c2:(0:Int)≤((ixE (x)))
 ·have e3:(ctE x)=true:=by unfold ctE; rw [if_pos c2]
  exact hCall_ev [evF 1 2 sn1,geT 1 3 3 c2] [] (vB true) h ⟨by rw [e3],rfl⟩
 ·have e4:(ctE x)=false:=by unfold ctE; rw [if_neg c2]
  exact hCall_ev [evF 1 2 sn1,geF 1 3 3 c2] [] (vB false) h ⟨by rw [e4],rfl⟩
/-- What saga.among gives. -/
def amE (x:Int):Bool:=if (ctE (x))=true then true else false
set_option maxHeartbeats 4000000 in
theorem amE_ok (h:Heap) (x:Int) {eb:Nat} (heb:h[eb]?=some (.cells #[(vI 16),(vI 17),(vI 18)] 34 (0,0))):WCall Tryz.prog 181 #[(vI (x)),(Value.slice (some ⟨eb,0,none⟩) 3 3)] h (fun v h1=>v=(vB (amE x))∧h=h1):=by
 obtain ⟨_,_,sn1,rfl,rfl⟩:=ctE_ok h heb (x) 
 rcases Bool.eq_false_or_eq_true ((ctE (x))) with c2 | c2
 ·have e3:(amE x)=true:=by unfold amE; rw [if_pos c2]
  exact hCall_ev [evFb 1 2 c2 sn1] [] (vB true) h ⟨by rw [e3],rfl⟩
 ·have e4:(amE x)=false:=by unfold amE; rw [if_neg (Bool.eq_false_iff.1 c2)]
  exact hCall_ev [evFb 1 2 c2 sn1] [] (vB false) h ⟨by rw [e4],rfl⟩
theorem amE_eq (x:Int):amE x=decide (x=16 ∨ x=17 ∨ x=18):=by
 unfold amE ctE ixE
 by_cases h1:x=16 <;> by_cases h2:x=17 <;> by_cases h3:x=18 <;> simp [h1,h2,h3]
set_option maxHeartbeats 4000000 in
theorem toS_ok (h:Heap) (s:SagaM) (sa:Option Addr) (cp:Nat) (hl:LAt h stepc 2 s.d.xs (.slice sa s.d.xs.length cp)) (hlen:s.d.xs.length≤9223372036854775807) (a:Int) (b:Int) (e:Int):WCall Tryz.prog 182 #[(Value.agg #[(vS s.d.name),(vI (s.d.rt)),(vI (s.d.dl)),(Value.slice sa (s.d.xs.length) (cp)),(vI (s.st)),(vI (s.ix)),(vB s.cn),(vI (s.tr)),(vI (s.bg)),(vI (s.er))]),(vI (a)),(vI (b)),(vI (e))] h (fun v h1=>v=(Value.agg #[(vS s.d.name),(vI (s.d.rt)),(vI (s.d.dl)),(Value.slice sa (s.d.xs.length) (cp)),(vI (a)),(vI (b)),(vB s.cn),(vI 0),(vI (s.bg)),(vI (e))])∧Ext h h1):=by
 obtain ⟨b1,eb2⟩:∃ zq,zq=h.size:=⟨_,rfl⟩
 obtain ⟨h3,e4⟩:∃ zq,zq=h.push (.cells #[(vS s.d.name),(vI (s.d.rt)),(vI (s.d.dl)),(Value.slice sa (s.d.xs.length) (cp)),(vI (s.st)),(vI (s.ix)),(vB s.cn),(vI (s.tr)),(vI (s.bg)),(vI (s.er))] 38 (0,0)):=⟨_,rfl⟩
 have f5:=push_new e4
 rw [← eb2] at f5
 have x6:Ext h h3:=by rw [e4]; exact Ext.push _ _
 have o7:h.size≤b1:=by have:=(Ext.refl h).size; omega
 have x8:=(Ext.refl h).trans x6
 obtain ⟨b9,eb10⟩:∃ zq,zq=h3.size:=⟨_,rfl⟩
 obtain ⟨h11,e12⟩:∃ zq,zq=h3.push (.cells #[(vS .empty),(vI 0),(vI 0),(Value.slice none 0 0),(vI 0),(vI 0),(vB false),(vI 0),(vI 0),(vI 0)] 38 (0,0)):=⟨_,rfl⟩
 have f13:=push_new e12
 rw [← eb10] at f13
 have n14:b9 ≠ b1:=by have:=row_lt f5; omega
 have x15:Ext h3 h11:=by rw [e12]; exact Ext.push _ _
 have o16:h.size≤b9:=by have:=x8.size; omega
 have f17:=x15 _ _ f5
 have x18:=x8.trans x15
 obtain ⟨h19,e20⟩:∃ zq,zq=h11.setIfInBounds b1 (.cells #[(vS s.d.name),(vI (s.d.rt)),(vI (s.d.dl)),(Value.slice sa (s.d.xs.length) (cp)),(vI (a)),(vI (s.ix)),(vB s.cn),(vI (s.tr)),(vI (s.bg)),(vI (s.er))] 38 (0,0)):=⟨_,rfl⟩
 have f21:=set_same e20 f17
 have f22:=set_other e20 f13 n14.symm
 have x23:=Ext.setNew x18 e20 o7
 obtain ⟨h24,e25⟩:∃ zq,zq=h19.setIfInBounds b1 (.cells #[(vS s.d.name),(vI (s.d.rt)),(vI (s.d.dl)),(Value.slice sa (s.d.xs.length) (cp)),(vI (a)),(vI (b)),(vB s.cn),(vI (s.tr)),(vI (s.bg)),(vI (s.er))] 38 (0,0)):=⟨_,rfl⟩
 have f26:=set_same e25 f21
 have f27:=set_other e25 f22 n14.symm
 have x28:=Ext.setNew x23 e25 o7
 obtain ⟨h29,e30⟩:∃ zq,zq=h24.setIfInBounds b1 (.cells #[(vS s.d.name),(vI (s.d.rt)),(vI (s.d.dl)),(Value.slice sa (s.d.xs.length) (cp)),(vI (a)),(vI (b)),(vB s.cn),(vI (s.tr)),(vI (s.bg)),(vI (e))] 38 (0,0)):=⟨_,rfl⟩
 have f31:=set_same e30 f26
 have f33:=set_other e30 f27 n14.symm
 have x34:=Ext.setNew x28 e30 o7
 obtain ⟨_,hh35,sn36,rfl,x37⟩:=next_ok h29 s.tr s.bg
 have f38:=x37 _ _ f31
 have f39:=x37 _ _ f33
 have x40:=x34.trans x37
 obtain ⟨h41,e42⟩:∃ zq,zq=hh35.setIfInBounds b1 (.cells #[(vS s.d.name),(vI (s.d.rt)),(vI (s.d.dl)),(Value.slice sa (s.d.xs.length) (cp)),(vI (a)),(vI (b)),(vB s.cn),(vI 0),(vI (s.bg)),(vI (e))] 38 (0,0)):=⟨_,rfl⟩
 have f43:=set_same e42 f38
 have f44:=set_other e42 f39 n14.symm
 have x45:=Ext.setNew x40 e42 o7
 obtain ⟨h46,e47⟩:∃ zq,zq=h41.setIfInBounds b9 (.cells #[(vS s.d.name),(vI (s.d.rt)),(vI (s.d.dl)),(Value.slice sa (s.d.xs.length) (cp)),(vI (a)),(vI (b)),(vB s.cn),(vI 0),(vI (s.bg)),(vI (e))] 38 (0,0)):=⟨_,rfl⟩
 have f48:=set_same e47 f44
 have x49:=Ext.setNew x45 e47 o16
 exact hCall_ev [evA 0 0 eb2 e4,evA 0 1 eb10 e12,evT 1 4 4 size3 f17 e20,evT 1 6 5 size3 f21 e25,evT 1 8 9 size34 f26 e30,evL 2 1 7 agg36 size36 f31,evF 2 2 sn36,evU 2 4 7 size36 f38 e42,evLw 3 0 agg38 size38 f43,evUw 3 1 size38 f44 e47] [evLw 0 0 agg38 size38 f48] (vA #[(vS s.d.name),(vI s.d.rt),(vI s.d.dl),(vL sa s.d.xs.length cp),(vI a),(vI b),(vB s.cn),(vI 0),(vI s.bg),(vI e)]) h46 ⟨rfl,x49⟩
/-- What saga.Saga).forward gives. -/
def fwdS (s:SagaM) (res:Int) (now:Int):Int × Int × Int × Int × Int:=if (amE (res))=true then (if ((res):Int)=0 then (if s.cn=true then (3,(s.ix),0,(s.bg),9) else (if (lateM s.tr s.bg s.d now)=true then (3,(s.ix),0,(s.bg),11) else (if (agB s.tr s.bg s.d now)=true then ((s.st),(s.ix),(agT s.tr s.bg s.d now),(agS s.tr s.bg s.d now),(s.er)) else (3,(s.ix),0,(s.bg),(res))))) else (if s.cn=true then (3,(s.ix),0,(s.bg),9) else (if (lateM s.tr s.bg s.d now)=true then (3,(s.ix),0,(s.bg),11) else (if (agB s.tr s.bg s.d now)=true then ((s.st),(s.ix),(agT s.tr s.bg s.d now),(agS s.tr s.bg s.d now),(s.er)) else (3,(s.ix),0,(s.bg),(res)))))) else (if ((res):Int)=0 then (if s.cn=true then (3,(s.ix),0,(s.bg),9) else (if (lateM s.tr s.bg s.d now)=true then (3,(s.ix),0,(s.bg),11) else (if ((s.ix):Int) < (((((s.d.xs.length)):Nat)) - 1) then (1,((s.ix) + 1),0,(s.bg),0) else (2,0,0,(s.bg),0)))) else (if ((s.ix):Int)=0 then (5,0,0,(s.bg),(res)) else (3,((s.ix) - 1),0,(s.bg),(res))))
set_option maxHeartbeats 4000000 in
theorem fwdS_ok (h:Heap) (s:SagaM) (sa:Option Addr) (cp:Nat) (hl:LAt h stepc 2 s.d.xs (.slice sa s.d.xs.length cp)) (hlen:s.d.xs.length≤9223372036854775807) (res:Int) (now:Int) (hok:chkS s=0):WCall Tryz.prog 178 #[(Value.agg #[(vS s.d.name),(vI (s.d.rt)),(vI (s.d.dl)),(Value.slice sa (s.d.xs.length) (cp)),(vI (s.st)),(vI (s.ix)),(vB s.cn),(vI (s.tr)),(vI (s.bg)),(vI (s.er))]),(vI (res)),(vI (now))] h (fun v h1=>v=(Value.agg #[(vS s.d.name),(vI (s.d.rt)),(vI (s.d.dl)),(Value.slice sa (s.d.xs.length) (cp)),(vI ((fwdS s res now).1)),(vI ((fwdS s res now).2.1)),(vB s.cn),(vI ((fwdS s res now).2.2.1)),(vI ((fwdS s res now).2.2.2.1)),(vI ((fwdS s res now).2.2.2.2))])∧Ext h h1):=by
 obtain ⟨z1324d,z1324b,z1324o⟩:=chkS_zero hok
 have:=defB_of z1324d
 have:=budB_of z1324b
 have z1324i:=okI_of z1324o
 have:=z1324i.1
 obtain ⟨b1,eb2⟩:∃ zq,zq=h.size:=⟨_,rfl⟩
 obtain ⟨h3,e4⟩:∃ zq,zq=h.push (.cells #[(vS s.d.name),(vI (s.d.rt)),(vI (s.d.dl)),(Value.slice sa (s.d.xs.length) (cp)),(vI (s.st)),(vI (s.ix)),(vB s.cn),(vI (s.tr)),(vI (s.bg)),(vI (s.er))] 38 (0,0)):=⟨_,rfl⟩
 have f5:=push_new e4
 rw [← eb2] at f5
 have x6:Ext h h3:=by rw [e4]; exact Ext.push _ _
 have o7:h.size≤b1:=by have:=(Ext.refl h).size; omega
 have x8:=(Ext.refl h).trans x6
 obtain ⟨b9,eb10⟩:∃ zq,zq=h3.size:=⟨_,rfl⟩
 obtain ⟨h11,e12⟩:∃ zq,zq=h3.push (.cells #[(vS .empty),(vI 0),(vI 0),(Value.slice none 0 0),(vI 0),(vI 0),(vB false),(vI 0),(vI 0),(vI 0)] 38 (0,0)):=⟨_,rfl⟩
 have f13:=push_new e12
 rw [← eb10] at f13
 have n14:b9 ≠ b1:=by have:=row_lt f5; omega
 have x15:Ext h3 h11:=by rw [e12]; exact Ext.push _ _
 have o16:h.size≤b9:=by have:=x8.size; omega
 have f17:=x15 _ _ f5
 have x18:=x8.trans x15
 obtain ⟨b19,eb20⟩:∃ zq,zq=h11.size:=⟨_,rfl⟩
 obtain ⟨h21,e22⟩:∃ zq,zq=h11.push (.cells #[(vI 16),(vI 17),(vI 18)] 34 (0,0)):=⟨_,rfl⟩
 have f23:=push_new e22
 rw [← eb20] at f23
 have x24:Ext h11 h21:=by rw [e22]; exact Ext.push _ _
 have o25:h.size≤b19:=by have:=x18.size; omega
 have f26:=x24 _ _ f17
 have f27:=x24 _ _ f13
 have x28:=x18.trans x24
 obtain ⟨_,_,sn29,rfl,rfl⟩:=amE_ok h21 (res) f23 
 rcases Bool.eq_false_or_eq_true ((amE (res))) with c30 | c30
 ·by_cases c31:((res):Int)=0
  ·obtain ⟨_,hh32,sn33,rfl,x34⟩:=late_ok h21 s.tr s.bg s.d _ _ (hl.keep fun b r _ q=>x28 b r q) (by omega) now
   have f35:=x34 _ _ f26
   have f36:=x34 _ _ f27
   have x37:=x28.trans x34
   rcases Bool.eq_false_or_eq_true (s.cn) with c38 | c38
   ·obtain ⟨_,hh39,sn40,rfl,x41⟩:=toS_ok hh32 s _ _ (hl.keep fun b r _ q=>x37 b r q) (by omega) 3 (s.ix) 9 
    have f42:=x41 _ _ f36
    have x43:=x37.trans x41
    obtain ⟨h44,e45⟩:∃ zq,zq=hh39.setIfInBounds b9 (.cells #[(vS s.d.name),(vI (s.d.rt)),(vI (s.d.dl)),(Value.slice sa (s.d.xs.length) (cp)),(vI 3),(vI (s.ix)),(vB s.cn),(vI 0),(vI (s.bg)),(vI 9)] 38 (0,0)):=⟨_,rfl⟩
    have f46:=set_same e45 f42
    have x47:=Ext.setNew x43 e45 o16
    have e48:(fwdS s res now)=(3,(s.ix),0,(s.bg),9):=by unfold fwdS; rw [if_pos c30,if_pos c31,if_pos c38]
    exact hCall_ev [evA 0 0 eb2 e4,evA 0 1 eb10 e12,evS 1 1 3 eb20 e22,evFb 1 2 c30 sn29,neF 2 1 34 c31,evL 6 1 7 agg36 size36 f26,evL 6 3 0 agg31 size31 f26,evF 6 5 sn33,evC 7 1 6 agg4 f35,evM 7 2 c38,evLw 8 0 agg38 size38 f35,evC 8 2 5 agg3 f35,evF 8 3 sn40,evUw 8 4 size38 f42 e45] [evLw 0 0 agg38 size38 f46] (vA #[(vS s.d.name),(vI s.d.rt),(vI s.d.dl),(vL sa s.d.xs.length cp),(vI 3),(vI s.ix),(vB s.cn),(vI 0),(vI s.bg),(vI 9)]) h44 ⟨by rw [e48],x47⟩
   ·rcases Bool.eq_false_or_eq_true ((lateM s.tr s.bg s.d now)) with c49 | c49
    ·obtain ⟨_,hh50,sn51,rfl,x52⟩:=toS_ok hh32 s _ _ (hl.keep fun b r _ q=>x37 b r q) (by omega) 3 (s.ix) 11 
     have f53:=x52 _ _ f36
     have x54:=x37.trans x52
     obtain ⟨h55,e56⟩:∃ zq,zq=hh50.setIfInBounds b9 (.cells #[(vS s.d.name),(vI (s.d.rt)),(vI (s.d.dl)),(Value.slice sa (s.d.xs.length) (cp)),(vI 3),(vI (s.ix)),(vB s.cn),(vI 0),(vI (s.bg)),(vI 11)] 38 (0,0)):=⟨_,rfl⟩
     have f57:=set_same e56 f53
     have x58:=Ext.setNew x54 e56 o16
     have e59:(fwdS s res now)=(3,(s.ix),0,(s.bg),11):=by unfold fwdS; rw [if_pos c30,if_pos c31,if_neg (Bool.eq_false_iff.1 c38),if_pos c49]
     exact hCall_ev [evA 0 0 eb2 e4,evA 0 1 eb10 e12,evS 1 1 3 eb20 e22,evFb 1 2 c30 sn29,neF 2 1 34 c31,evL 6 1 7 agg36 size36 f26,evL 6 3 0 agg31 size31 f26,evF 6 5 sn33,evC 7 1 6 agg4 f35,evM 7 2 c38,evM 9 1 c49,evLw 10 0 agg38 size38 f35,evC 10 2 5 agg3 f35,evF 10 3 sn51,evUw 10 4 size38 f53 e56] [evLw 0 0 agg38 size38 f57] (vA #[(vS s.d.name),(vI s.d.rt),(vI s.d.dl),(vL sa s.d.xs.length cp),(vI 3),(vI s.ix),(vB s.cn),(vI 0),(vI s.bg),(vI 11)]) h55 ⟨by rw [e59],x58⟩
    ·obtain ⟨_,hh60,sn61,rfl,x62⟩:=again_ok hh32 s.tr s.bg s.d _ _ (hl.keep fun b r _ q=>x37 b r q) (by omega) now
     have f63:=x62 _ _ f35
     have f65:=x62 _ _ f36
     have x66:=x37.trans x62
     obtain ⟨b67,eb68⟩:∃ zq,zq=hh60.size:=⟨_,rfl⟩
     obtain ⟨h69,e70⟩:∃ zq,zq=hh60.push (.cells #[(vI 0),(vI 0)] 36 (0,0)):=⟨_,rfl⟩
     have f71:=push_new e70
     rw [← eb68] at f71
     have n72:b67 ≠ b1:=by have:=row_lt f63; omega
     have n73:b67 ≠ b9:=by have:=row_lt f65; omega
     have x74:Ext hh60 h69:=by rw [e70]; exact Ext.push _ _
     have o75:h.size≤b67:=by have:=x66.size; omega
     have f76:=x74 _ _ f63
     have f77:=x74 _ _ f65
     have x78:=x66.trans x74
     obtain ⟨h79,e80⟩:∃ zq,zq=h69.setIfInBounds b67 (.cells #[(vI (agT s.tr s.bg s.d now)),(vI (agS s.tr s.bg s.d now))] 36 (0,0)):=⟨_,rfl⟩
     have f81:=set_same e80 f71
     have f82:=set_other e80 f76 n72
     have f83:=set_other e80 f77 n73
     have x84:=Ext.setNew x78 e80 o75
     rcases Bool.eq_false_or_eq_true ((agB s.tr s.bg s.d now)) with c85 | c85
     ·obtain ⟨h86,e87⟩:∃ zq,zq=h79.setIfInBounds b1 (.cells #[(vS s.d.name),(vI (s.d.rt)),(vI (s.d.dl)),(Value.slice sa (s.d.xs.length) (cp)),(vI (s.st)),(vI (s.ix)),(vB s.cn),(vI (agT s.tr s.bg s.d now)),(vI (agS s.tr s.bg s.d now)),(vI (s.er))] 38 (0,0)):=⟨_,rfl⟩
      have f88:=set_same e87 f82
      have f89:=set_other e87 f83 n14.symm
      have x90:=Ext.setNew x84 e87 o7
      obtain ⟨h91,e92⟩:∃ zq,zq=h86.setIfInBounds b9 (.cells #[(vS s.d.name),(vI (s.d.rt)),(vI (s.d.dl)),(Value.slice sa (s.d.xs.length) (cp)),(vI (s.st)),(vI (s.ix)),(vB s.cn),(vI (agT s.tr s.bg s.d now)),(vI (agS s.tr s.bg s.d now)),(vI (s.er))] 38 (0,0)):=⟨_,rfl⟩
      have f93:=set_same e92 f89
      have x94:=Ext.setNew x90 e92 o16
      have e95:(fwdS s res now)=((s.st),(s.ix),(agT s.tr s.bg s.d now),(agS s.tr s.bg s.d now),(s.er)):=by unfold fwdS; rw [if_pos c30,if_pos c31,if_neg (Bool.eq_false_iff.1 c38),if_neg (Bool.eq_false_iff.1 c49),if_pos c85]
      exact hCall_ev [evA 0 0 eb2 e4,evA 0 1 eb10 e12,evS 1 1 3 eb20 e22,evFb 1 2 c30 sn29,neF 2 1 34 c31,evL 6 1 7 agg36 size36 f26,evL 6 3 0 agg31 size31 f26,evF 6 5 sn33,evC 7 1 6 agg4 f35,evM 7 2 c38,evM 9 1 c49,evL 12 1 7 agg36 size36 f35,evL 12 3 0 agg31 size31 f35,evF 12 5 sn61,evA 12 10 eb68 e70,evUw 12 11 size36 f71 e80,evM 13 0 c85,evLw 15 0 agg36 size36 f81,evU 15 2 7 size36 f82 e87,evLw 16 0 agg38 size38 f88,evUw 16 1 size38 f89 e92] [evLw 0 0 agg38 size38 f93] (vA #[(vS s.d.name),(vI s.d.rt),(vI s.d.dl),(vL sa s.d.xs.length cp),(vI s.st),(vI s.ix),(vB s.cn),(vI (agT s.tr s.bg s.d now)),(vI (agS s.tr s.bg s.d now)),(vI s.er)]) h91 ⟨by rw [e95],x94⟩
     ·obtain ⟨_,hh96,sn97,rfl,x98⟩:=toS_ok h79 s _ _ (hl.keep fun b r _ q=>x84 b r q) (by omega) 3 (s.ix) (res) 
      have f99:=x98 _ _ f83
      have x100:=x84.trans x98
      obtain ⟨h101,e102⟩:∃ zq,zq=hh96.setIfInBounds b9 (.cells #[(vS s.d.name),(vI (s.d.rt)),(vI (s.d.dl)),(Value.slice sa (s.d.xs.length) (cp)),(vI 3),(vI (s.ix)),(vB s.cn),(vI 0),(vI (s.bg)),(vI (res))] 38 (0,0)):=⟨_,rfl⟩
      have f103:=set_same e102 f99
      have x104:=Ext.setNew x100 e102 o16
      have e105:(fwdS s res now)=(3,(s.ix),0,(s.bg),(res)):=by unfold fwdS; rw [if_pos c30,if_pos c31,if_neg (Bool.eq_false_iff.1 c38),if_neg (Bool.eq_false_iff.1 c49),if_neg (Bool.eq_false_iff.1 c85)]
      exact hCall_ev [evA 0 0 eb2 e4,evA 0 1 eb10 e12,evS 1 1 3 eb20 e22,evFb 1 2 c30 sn29,neF 2 1 34 c31,evL 6 1 7 agg36 size36 f26,evL 6 3 0 agg31 size31 f26,evF 6 5 sn33,evC 7 1 6 agg4 f35,evM 7 2 c38,evM 9 1 c49,evL 12 1 7 agg36 size36 f35,evL 12 3 0 agg31 size31 f35,evF 12 5 sn61,evA 12 10 eb68 e70,evUw 12 11 size36 f71 e80,evM 13 0 c85,evLw 14 0 agg38 size38 f82,evC 14 2 5 agg3 f82,evF 14 4 sn97,evUw 14 5 size38 f99 e102] [evLw 0 0 agg38 size38 f103] (vA #[(vS s.d.name),(vI s.d.rt),(vI s.d.dl),(vL sa s.d.xs.length cp),(vI 3),(vI s.ix),(vB s.cn),(vI 0),(vI s.bg),(vI res)]) h101 ⟨by rw [e105],x104⟩
  ·obtain ⟨_,hh106,sn107,rfl,x108⟩:=late_ok h21 s.tr s.bg s.d _ _ (hl.keep fun b r _ q=>x28 b r q) (by omega) now
   have f109:=x108 _ _ f26
   have f110:=x108 _ _ f27
   have x111:=x28.trans x108
   rcases Bool.eq_false_or_eq_true (s.cn) with c112 | c112
   ·obtain ⟨_,hh113,sn114,rfl,x115⟩:=toS_ok hh106 s _ _ (hl.keep fun b r _ q=>x111 b r q) (by omega) 3 (s.ix) 9 
    have f116:=x115 _ _ f110
    have x117:=x111.trans x115
    obtain ⟨h118,e119⟩:∃ zq,zq=hh113.setIfInBounds b9 (.cells #[(vS s.d.name),(vI (s.d.rt)),(vI (s.d.dl)),(Value.slice sa (s.d.xs.length) (cp)),(vI 3),(vI (s.ix)),(vB s.cn),(vI 0),(vI (s.bg)),(vI 9)] 38 (0,0)):=⟨_,rfl⟩
    have f120:=set_same e119 f116
    have x121:=Ext.setNew x117 e119 o16
    have e122:(fwdS s res now)=(3,(s.ix),0,(s.bg),9):=by unfold fwdS; rw [if_pos c30,if_neg c31,if_pos c112]
    exact hCall_ev [evA 0 0 eb2 e4,evA 0 1 eb10 e12,evS 1 1 3 eb20 e22,evFb 1 2 c30 sn29,neT 2 1 34 c31,evL 6 1 7 agg36 size36 f26,evL 6 3 0 agg31 size31 f26,evF 6 5 sn107,evC 7 1 6 agg4 f109,evM 7 2 c112,evLw 8 0 agg38 size38 f109,evC 8 2 5 agg3 f109,evF 8 3 sn114,evUw 8 4 size38 f116 e119] [evLw 0 0 agg38 size38 f120] (vA #[(vS s.d.name),(vI s.d.rt),(vI s.d.dl),(vL sa s.d.xs.length cp),(vI 3),(vI s.ix),(vB s.cn),(vI 0),(vI s.bg),(vI 9)]) h118 ⟨by rw [e122],x121⟩
   ·rcases Bool.eq_false_or_eq_true ((lateM s.tr s.bg s.d now)) with c123 | c123
    ·obtain ⟨_,hh124,sn125,rfl,x126⟩:=toS_ok hh106 s _ _ (hl.keep fun b r _ q=>x111 b r q) (by omega) 3 (s.ix) 11 
     have f127:=x126 _ _ f110
     have x128:=x111.trans x126
     obtain ⟨h129,e130⟩:∃ zq,zq=hh124.setIfInBounds b9 (.cells #[(vS s.d.name),(vI (s.d.rt)),(vI (s.d.dl)),(Value.slice sa (s.d.xs.length) (cp)),(vI 3),(vI (s.ix)),(vB s.cn),(vI 0),(vI (s.bg)),(vI 11)] 38 (0,0)):=⟨_,rfl⟩
     have f131:=set_same e130 f127
     have x132:=Ext.setNew x128 e130 o16
     have e133:(fwdS s res now)=(3,(s.ix),0,(s.bg),11):=by unfold fwdS; rw [if_pos c30,if_neg c31,if_neg (Bool.eq_false_iff.1 c112),if_pos c123]
     exact hCall_ev [evA 0 0 eb2 e4,evA 0 1 eb10 e12,evS 1 1 3 eb20 e22,evFb 1 2 c30 sn29,neT 2 1 34 c31,evL 6 1 7 agg36 size36 f26,evL 6 3 0 agg31 size31 f26,evF 6 5 sn107,evC 7 1 6 agg4 f109,evM 7 2 c112,evM 9 1 c123,evLw 10 0 agg38 size38 f109,evC 10 2 5 agg3 f109,evF 10 3 sn125,evUw 10 4 size38 f127 e130] [evLw 0 0 agg38 size38 f131] (vA #[(vS s.d.name),(vI s.d.rt),(vI s.d.dl),(vL sa s.d.xs.length cp),(vI 3),(vI s.ix),(vB s.cn),(vI 0),(vI s.bg),(vI 11)]) h129 ⟨by rw [e133],x132⟩
    ·obtain ⟨_,hh134,sn135,rfl,x136⟩:=again_ok hh106 s.tr s.bg s.d _ _ (hl.keep fun b r _ q=>x111 b r q) (by omega) now
     have f137:=x136 _ _ f109
     have f138:=x136 _ _ f110
     have x139:=x111.trans x136
     obtain ⟨b140,eb141⟩:∃ zq,zq=hh134.size:=⟨_,rfl⟩
     obtain ⟨h142,e143⟩:∃ zq,zq=hh134.push (.cells #[(vI 0),(vI 0)] 36 (0,0)):=⟨_,rfl⟩
     have f144:=push_new e143
     rw [← eb141] at f144
     have n145:b140 ≠ b1:=by have:=row_lt f137; omega
     have n146:b140 ≠ b9:=by have:=row_lt f138; omega
     have x147:Ext hh134 h142:=by rw [e143]; exact Ext.push _ _
     have o148:h.size≤b140:=by have:=x139.size; omega
     have f149:=x147 _ _ f137
     have f150:=x147 _ _ f138
     have x151:=x139.trans x147
     obtain ⟨h152,e153⟩:∃ zq,zq=h142.setIfInBounds b140 (.cells #[(vI (agT s.tr s.bg s.d now)),(vI (agS s.tr s.bg s.d now))] 36 (0,0)):=⟨_,rfl⟩
     have f154:=set_same e153 f144
     have f155:=set_other e153 f149 n145
     have f156:=set_other e153 f150 n146
     have x157:=Ext.setNew x151 e153 o148
     rcases Bool.eq_false_or_eq_true ((agB s.tr s.bg s.d now)) with c158 | c158
     ·obtain ⟨h159,e160⟩:∃ zq,zq=h152.setIfInBounds b1 (.cells #[(vS s.d.name),(vI (s.d.rt)),(vI (s.d.dl)),(Value.slice sa (s.d.xs.length) (cp)),(vI (s.st)),(vI (s.ix)),(vB s.cn),(vI (agT s.tr s.bg s.d now)),(vI (agS s.tr s.bg s.d now)),(vI (s.er))] 38 (0,0)):=⟨_,rfl⟩
      have f161:=set_same e160 f155
      have f162:=set_other e160 f156 n14.symm
      have x163:=Ext.setNew x157 e160 o7
      obtain ⟨h164,e165⟩:∃ zq,zq=h159.setIfInBounds b9 (.cells #[(vS s.d.name),(vI (s.d.rt)),(vI (s.d.dl)),(Value.slice sa (s.d.xs.length) (cp)),(vI (s.st)),(vI (s.ix)),(vB s.cn),(vI (agT s.tr s.bg s.d now)),(vI (agS s.tr s.bg s.d now)),(vI (s.er))] 38 (0,0)):=⟨_,rfl⟩
      have f166:=set_same e165 f162
      have x167:=Ext.setNew x163 e165 o16
      have e168:(fwdS s res now)=((s.st),(s.ix),(agT s.tr s.bg s.d now),(agS s.tr s.bg s.d now),(s.er)):=by unfold fwdS; rw [if_pos c30,if_neg c31,if_neg (Bool.eq_false_iff.1 c112),if_neg (Bool.eq_false_iff.1 c123),if_pos c158]
      exact hCall_ev [evA 0 0 eb2 e4,evA 0 1 eb10 e12,evS 1 1 3 eb20 e22,evFb 1 2 c30 sn29,neT 2 1 34 c31,evL 6 1 7 agg36 size36 f26,evL 6 3 0 agg31 size31 f26,evF 6 5 sn107,evC 7 1 6 agg4 f109,evM 7 2 c112,evM 9 1 c123,evL 12 1 7 agg36 size36 f109,evL 12 3 0 agg31 size31 f109,evF 12 5 sn135,evA 12 10 eb141 e143,evUw 12 11 size36 f144 e153,evM 13 0 c158,evLw 15 0 agg36 size36 f154,evU 15 2 7 size36 f155 e160,evLw 16 0 agg38 size38 f161,evUw 16 1 size38 f162 e165] [evLw 0 0 agg38 size38 f166] (vA #[(vS s.d.name),(vI s.d.rt),(vI s.d.dl),(vL sa s.d.xs.length cp),(vI s.st),(vI s.ix),(vB s.cn),(vI (agT s.tr s.bg s.d now)),(vI (agS s.tr s.bg s.d now)),(vI s.er)]) h164 ⟨by rw [e168],x167⟩
     ·obtain ⟨_,hh169,sn170,rfl,x171⟩:=toS_ok h152 s _ _ (hl.keep fun b r _ q=>x157 b r q) (by omega) 3 (s.ix) (res) 
      have f172:=x171 _ _ f156
      have x173:=x157.trans x171
      obtain ⟨h174,e175⟩:∃ zq,zq=hh169.setIfInBounds b9 (.cells #[(vS s.d.name),(vI (s.d.rt)),(vI (s.d.dl)),(Value.slice sa (s.d.xs.length) (cp)),(vI 3),(vI (s.ix)),(vB s.cn),(vI 0),(vI (s.bg)),(vI (res))] 38 (0,0)):=⟨_,rfl⟩
      have f176:=set_same e175 f172
      have x177:=Ext.setNew x173 e175 o16
      have e178:(fwdS s res now)=(3,(s.ix),0,(s.bg),(res)):=by unfold fwdS; rw [if_pos c30,if_neg c31,if_neg (Bool.eq_false_iff.1 c112),if_neg (Bool.eq_false_iff.1 c123),if_neg (Bool.eq_false_iff.1 c158)]
      exact hCall_ev [evA 0 0 eb2 e4,evA 0 1 eb10 e12,evS 1 1 3 eb20 e22,evFb 1 2 c30 sn29,neT 2 1 34 c31,evL 6 1 7 agg36 size36 f26,evL 6 3 0 agg31 size31 f26,evF 6 5 sn107,evC 7 1 6 agg4 f109,evM 7 2 c112,evM 9 1 c123,evL 12 1 7 agg36 size36 f109,evL 12 3 0 agg31 size31 f109,evF 12 5 sn135,evA 12 10 eb141 e143,evUw 12 11 size36 f144 e153,evM 13 0 c158,evLw 14 0 agg38 size38 f155,evC 14 2 5 agg3 f155,evF 14 4 sn170,evUw 14 5 size38 f172 e175] [evLw 0 0 agg38 size38 f176] (vA #[(vS s.d.name),(vI s.d.rt),(vI s.d.dl),(vL sa s.d.xs.length cp),(vI 3),(vI s.ix),(vB s.cn),(vI 0),(vI s.bg),(vI res)]) h174 ⟨by rw [e178],x177⟩
 ·by_cases c179:((res):Int)=0
  ·obtain ⟨_,hh180,sn181,rfl,x182⟩:=late_ok h21 s.tr s.bg s.d _ _ (hl.keep fun b r _ q=>x28 b r q) (by omega) now
   have f183:=x182 _ _ f26
   have f184:=x182 _ _ f27
   have x185:=x28.trans x182
   rcases Bool.eq_false_or_eq_true (s.cn) with c186 | c186
   ·obtain ⟨_,hh187,sn188,rfl,x189⟩:=toS_ok hh180 s _ _ (hl.keep fun b r _ q=>x185 b r q) (by omega) 3 (s.ix) 9 
    have f190:=x189 _ _ f184
    have x191:=x185.trans x189
    obtain ⟨h192,e193⟩:∃ zq,zq=hh187.setIfInBounds b9 (.cells #[(vS s.d.name),(vI (s.d.rt)),(vI (s.d.dl)),(Value.slice sa (s.d.xs.length) (cp)),(vI 3),(vI (s.ix)),(vB s.cn),(vI 0),(vI (s.bg)),(vI 9)] 38 (0,0)):=⟨_,rfl⟩
    have f194:=set_same e193 f190
    have x195:=Ext.setNew x191 e193 o16
    have e196:(fwdS s res now)=(3,(s.ix),0,(s.bg),9):=by unfold fwdS; rw [if_neg (Bool.eq_false_iff.1 c30),if_pos c179,if_pos c186]
    exact hCall_ev [evA 0 0 eb2 e4,evA 0 1 eb10 e12,evS 1 1 3 eb20 e22,evFb 1 2 c30 sn29,neF 2 1 34 c179,evL 6 1 7 agg36 size36 f26,evL 6 3 0 agg31 size31 f26,evF 6 5 sn181,evC 7 1 6 agg4 f183,evM 7 2 c186,evLw 8 0 agg38 size38 f183,evC 8 2 5 agg3 f183,evF 8 3 sn188,evUw 8 4 size38 f190 e193] [evLw 0 0 agg38 size38 f194] (vA #[(vS s.d.name),(vI s.d.rt),(vI s.d.dl),(vL sa s.d.xs.length cp),(vI 3),(vI s.ix),(vB s.cn),(vI 0),(vI s.bg),(vI 9)]) h192 ⟨by rw [e196],x195⟩
   ·rcases Bool.eq_false_or_eq_true ((lateM s.tr s.bg s.d now)) with c197 | c197
    ·obtain ⟨_,hh198,sn199,rfl,x200⟩:=toS_ok hh180 s _ _ (hl.keep fun b r _ q=>x185 b r q) (by omega) 3 (s.ix) 11 
     have f201:=x200 _ _ f184
     have x202:=x185.trans x200
     obtain ⟨h203,e204⟩:∃ zq,zq=hh198.setIfInBounds b9 (.cells #[(vS s.d.name),(vI (s.d.rt)),(vI (s.d.dl)),(Value.slice sa (s.d.xs.length) (cp)),(vI 3),(vI (s.ix)),(vB s.cn),(vI 0),(vI (s.bg)),(vI 11)] 38 (0,0)):=⟨_,rfl⟩
     have f205:=set_same e204 f201
     have x206:=Ext.setNew x202 e204 o16
     have e207:(fwdS s res now)=(3,(s.ix),0,(s.bg),11):=by unfold fwdS; rw [if_neg (Bool.eq_false_iff.1 c30),if_pos c179,if_neg (Bool.eq_false_iff.1 c186),if_pos c197]
     exact hCall_ev [evA 0 0 eb2 e4,evA 0 1 eb10 e12,evS 1 1 3 eb20 e22,evFb 1 2 c30 sn29,neF 2 1 34 c179,evL 6 1 7 agg36 size36 f26,evL 6 3 0 agg31 size31 f26,evF 6 5 sn181,evC 7 1 6 agg4 f183,evM 7 2 c186,evM 9 1 c197,evLw 10 0 agg38 size38 f183,evC 10 2 5 agg3 f183,evF 10 3 sn199,evUw 10 4 size38 f201 e204] [evLw 0 0 agg38 size38 f205] (vA #[(vS s.d.name),(vI s.d.rt),(vI s.d.dl),(vL sa s.d.xs.length cp),(vI 3),(vI s.ix),(vB s.cn),(vI 0),(vI s.bg),(vI 11)]) h203 ⟨by rw [e207],x206⟩
    ·obtain ⟨_,hh208,sn209,rfl,x210⟩:=lastV_ok hh180 s _ _ (hl.keep fun b r _ q=>x185 b r q) (by omega)
     have f211:=x210 _ _ f183
     have f212:=x210 _ _ f184
     have x213:=x185.trans x210
     by_cases c214:((s.ix):Int) < (((((s.d.xs.length)):Nat)) - 1)
     ·obtain ⟨_,hh215,sn216,rfl,x217⟩:=toS_ok hh208 s _ _ (hl.keep fun b r _ q=>x213 b r q) (by omega) 1 ((s.ix) + 1) 0 
      have f218:=x217 _ _ f212
      have x219:=x213.trans x217
      obtain ⟨h220,e221⟩:∃ zq,zq=hh215.setIfInBounds b9 (.cells #[(vS s.d.name),(vI (s.d.rt)),(vI (s.d.dl)),(Value.slice sa (s.d.xs.length) (cp)),(vI 1),(vI ((s.ix) + 1)),(vB s.cn),(vI 0),(vI (s.bg)),(vI 0)] 38 (0,0)):=⟨_,rfl⟩
      have f222:=set_same e221 f218
      have x223:=Ext.setNew x219 e221 o16
      have e224:(fwdS s res now)=(1,((s.ix) + 1),0,(s.bg),0):=by unfold fwdS; rw [if_neg (Bool.eq_false_iff.1 c30),if_pos c179,if_neg (Bool.eq_false_iff.1 c186),if_neg (Bool.eq_false_iff.1 c197),if_pos c214]
      exact hCall_ev [evA 0 0 eb2 e4,evA 0 1 eb10 e12,evS 1 1 3 eb20 e22,evFb 1 2 c30 sn29,neF 2 1 34 c179,evL 6 1 7 agg36 size36 f26,evL 6 3 0 agg31 size31 f26,evF 6 5 sn181,evC 7 1 6 agg4 f183,evM 7 2 c186,evM 9 1 c197,evC 17 1 5 agg3 f183,evLw 17 2 agg38 size38 f183,evF 17 3 sn209,evC 99 0 5 agg3 f211,ltT 17 4 3 c214,evLw 18 0 agg38 size38 f211,evC 18 2 5 agg3 f211,evV 18 3 (vI ((s.ix) + 1)) (show binA Tryz.prog .add 3 (vI s.ix) (vI 1)=some (vI ((s.ix) + 1)) from add_i64 (by omega) (by omega)),evF 18 4 sn216,evUw 18 5 size38 f218 e221] [evLw 0 0 agg38 size38 f222] (vA #[(vS s.d.name),(vI s.d.rt),(vI s.d.dl),(vL sa s.d.xs.length cp),(vI 1),(vI ((s.ix) + 1)),(vB s.cn),(vI 0),(vI s.bg),(vI 0)]) h220 ⟨by rw [e224],x223⟩
     ·obtain ⟨_,hh225,sn226,rfl,x227⟩:=toS_ok hh208 s _ _ (hl.keep fun b r _ q=>x213 b r q) (by omega) 2 0 0 
      have f228:=x227 _ _ f212
      have x229:=x213.trans x227
      obtain ⟨h230,e231⟩:∃ zq,zq=hh225.setIfInBounds b9 (.cells #[(vS s.d.name),(vI (s.d.rt)),(vI (s.d.dl)),(Value.slice sa (s.d.xs.length) (cp)),(vI 2),(vI 0),(vB s.cn),(vI 0),(vI (s.bg)),(vI 0)] 38 (0,0)):=⟨_,rfl⟩
      have f232:=set_same e231 f228
      have x233:=Ext.setNew x229 e231 o16
      have e234:(fwdS s res now)=(2,0,0,(s.bg),0):=by unfold fwdS; rw [if_neg (Bool.eq_false_iff.1 c30),if_pos c179,if_neg (Bool.eq_false_iff.1 c186),if_neg (Bool.eq_false_iff.1 c197),if_neg c214]
      exact hCall_ev [evA 0 0 eb2 e4,evA 0 1 eb10 e12,evS 1 1 3 eb20 e22,evFb 1 2 c30 sn29,neF 2 1 34 c179,evL 6 1 7 agg36 size36 f26,evL 6 3 0 agg31 size31 f26,evF 6 5 sn181,evC 7 1 6 agg4 f183,evM 7 2 c186,evM 9 1 c197,evC 17 1 5 agg3 f183,evLw 17 2 agg38 size38 f183,evF 17 3 sn209,evC 99 0 5 agg3 f211,ltF 17 4 3 c214,evLw 19 0 agg38 size38 f211,evF 19 1 sn226,evUw 19 2 size38 f228 e231] [evLw 0 0 agg38 size38 f232] (vA #[(vS s.d.name),(vI s.d.rt),(vI s.d.dl),(vL sa s.d.xs.length cp),(vI 2),(vI 0),(vB s.cn),(vI 0),(vI s.bg),(vI 0)]) h230 ⟨by rw [e234],x233⟩
  ·by_cases c235:((s.ix):Int)=0
   ·obtain ⟨_,hh236,sn237,rfl,x238⟩:=toS_ok h21 s _ _ (hl.keep fun b r _ q=>x28 b r q) (by omega) 5 0 (res) 
    have f239:=x238 _ _ f27
    have x240:=x28.trans x238
    obtain ⟨h241,e242⟩:∃ zq,zq=hh236.setIfInBounds b9 (.cells #[(vS s.d.name),(vI (s.d.rt)),(vI (s.d.dl)),(Value.slice sa (s.d.xs.length) (cp)),(vI 5),(vI 0),(vB s.cn),(vI 0),(vI (s.bg)),(vI (res))] 38 (0,0)):=⟨_,rfl⟩
    have f243:=set_same e242 f239
    have x244:=Ext.setNew x240 e242 o16
    have e245:(fwdS s res now)=(5,0,0,(s.bg),(res)):=by unfold fwdS; rw [if_neg (Bool.eq_false_iff.1 c30),if_neg c179,if_pos c235]
    exact hCall_ev [evA 0 0 eb2 e4,evA 0 1 eb10 e12,evS 1 1 3 eb20 e22,evFb 1 2 c30 sn29,neT 2 1 34 c179,evC 3 1 5 agg3 f26,eqT 3 2 3 c235,evLw 4 0 agg38 size38 f26,evF 4 2 sn237,evUw 4 3 size38 f239 e242] [evLw 0 0 agg38 size38 f243] (vA #[(vS s.d.name),(vI s.d.rt),(vI s.d.dl),(vL sa s.d.xs.length cp),(vI 5),(vI 0),(vB s.cn),(vI 0),(vI s.bg),(vI res)]) h241 ⟨by rw [e245],x244⟩
   ·obtain ⟨_,hh246,sn247,rfl,x248⟩:=toS_ok h21 s _ _ (hl.keep fun b r _ q=>x28 b r q) (by omega) 3 ((s.ix) - 1) (res) 
    have f249:=x248 _ _ f27
    have x250:=x28.trans x248
    obtain ⟨h251,e252⟩:∃ zq,zq=hh246.setIfInBounds b9 (.cells #[(vS s.d.name),(vI (s.d.rt)),(vI (s.d.dl)),(Value.slice sa (s.d.xs.length) (cp)),(vI 3),(vI ((s.ix) - 1)),(vB s.cn),(vI 0),(vI (s.bg)),(vI (res))] 38 (0,0)):=⟨_,rfl⟩
    have f253:=set_same e252 f249
    have x254:=Ext.setNew x250 e252 o16
    have e255:(fwdS s res now)=(3,((s.ix) - 1),0,(s.bg),(res)):=by unfold fwdS; rw [if_neg (Bool.eq_false_iff.1 c30),if_neg c179,if_neg c235]
    exact hCall_ev [evA 0 0 eb2 e4,evA 0 1 eb10 e12,evS 1 1 3 eb20 e22,evFb 1 2 c30 sn29,neT 2 1 34 c179,evC 3 1 5 agg3 f26,eqF 3 2 3 c235,evLw 5 0 agg38 size38 f26,evC 5 2 5 agg3 f26,evV 5 3 (vI ((s.ix) - 1)) (show binA Tryz.prog .sub 3 (vI s.ix) (vI 1)=some (vI ((s.ix) - 1)) from sub_i64 (by omega) (by omega)),evF 5 5 sn247,evUw 5 6 size38 f249 e252] [evLw 0 0 agg38 size38 f253] (vA #[(vS s.d.name),(vI s.d.rt),(vI s.d.dl),(vL sa s.d.xs.length cp),(vI 3),(vI ((s.ix) - 1)),(vB s.cn),(vI 0),(vI s.bg),(vI res)]) h251 ⟨by rw [e255],x254⟩
/-- What saga.Saga).free gives. -/
def freS (s:SagaM) (res:Int) (now:Int):Int × Int × Int × Int:=if ((res):Int)=0 then (if ((s.ix):Int) < (((((s.d.xs.length)):Nat)) - 1) then (2,((s.ix) + 1),0,0) else (4,0,0,0)) else ((s.st),(s.ix),(s.tr),(s.er))
set_option maxHeartbeats 4000000 in
theorem freS_ok (h:Heap) (s:SagaM) (sa:Option Addr) (cp:Nat) (hl:LAt h stepc 2 s.d.xs (.slice sa s.d.xs.length cp)) (hlen:s.d.xs.length≤9223372036854775807) (res:Int) (now:Int) (hok:chkS s=0):WCall Tryz.prog 179 #[(Value.agg #[(vS s.d.name),(vI (s.d.rt)),(vI (s.d.dl)),(Value.slice sa (s.d.xs.length) (cp)),(vI (s.st)),(vI (s.ix)),(vB s.cn),(vI (s.tr)),(vI (s.bg)),(vI (s.er))]),(vI (res)),(vI (now))] h (fun v h1=>v=(Value.agg #[(vS s.d.name),(vI (s.d.rt)),(vI (s.d.dl)),(Value.slice sa (s.d.xs.length) (cp)),(vI ((freS s res now).1)),(vI ((freS s res now).2.1)),(vB s.cn),(vI ((freS s res now).2.2.1)),(vI (s.bg)),(vI ((freS s res now).2.2.2))])∧Ext h h1):=by
 obtain ⟨z1680d,z1680b,z1680o⟩:=chkS_zero hok
 have:=defB_of z1680d
 have:=budB_of z1680b
 have z1680i:=okI_of z1680o
 have:=z1680i.1
 obtain ⟨b1,eb2⟩:∃ zq,zq=h.size:=⟨_,rfl⟩
 obtain ⟨h3,e4⟩:∃ zq,zq=h.push (.cells #[(vS s.d.name),(vI (s.d.rt)),(vI (s.d.dl)),(Value.slice sa (s.d.xs.length) (cp)),(vI (s.st)),(vI (s.ix)),(vB s.cn),(vI (s.tr)),(vI (s.bg)),(vI (s.er))] 38 (0,0)):=⟨_,rfl⟩
 have f5:=push_new e4
 rw [← eb2] at f5
 have x6:Ext h h3:=by rw [e4]; exact Ext.push _ _
 have o7:h.size≤b1:=by have:=(Ext.refl h).size; omega
 have x8:=(Ext.refl h).trans x6
 obtain ⟨b9,eb10⟩:∃ zq,zq=h3.size:=⟨_,rfl⟩
 obtain ⟨h11,e12⟩:∃ zq,zq=h3.push (.cells #[(vS .empty),(vI 0),(vI 0),(Value.slice none 0 0),(vI 0),(vI 0),(vB false),(vI 0),(vI 0),(vI 0)] 38 (0,0)):=⟨_,rfl⟩
 have f13:=push_new e12
 rw [← eb10] at f13
 have x14:Ext h3 h11:=by rw [e12]; exact Ext.push _ _
 have o15:h.size≤b9:=by have:=x8.size; omega
 have f17:=x14 _ _ f5
 have x18:=x8.trans x14
 by_cases c19:((res):Int)=0
 ·obtain ⟨_,hh20,sn21,rfl,x22⟩:=lastV_ok h11 s _ _ (hl.keep fun b r _ q=>x18 b r q) (by omega)
  have f23:=x22 _ _ f17
  have f24:=x22 _ _ f13
  have x25:=x18.trans x22
  by_cases c26:((s.ix):Int) < (((((s.d.xs.length)):Nat)) - 1)
  ·obtain ⟨_,hh27,sn28,rfl,x29⟩:=toS_ok hh20 s _ _ (hl.keep fun b r _ q=>x25 b r q) (by omega) 2 ((s.ix) + 1) 0 
   have f30:=x29 _ _ f24
   have x31:=x25.trans x29
   obtain ⟨h32,e33⟩:∃ zq,zq=hh27.setIfInBounds b9 (.cells #[(vS s.d.name),(vI (s.d.rt)),(vI (s.d.dl)),(Value.slice sa (s.d.xs.length) (cp)),(vI 2),(vI ((s.ix) + 1)),(vB s.cn),(vI 0),(vI (s.bg)),(vI 0)] 38 (0,0)):=⟨_,rfl⟩
   have f34:=set_same e33 f30
   have x35:=Ext.setNew x31 e33 o15
   have e36:(freS s res now)=(2,((s.ix) + 1),0,0):=by unfold freS; rw [if_pos c19,if_pos c26]
   exact hCall_ev [evA 0 0 eb2 e4,evA 0 1 eb10 e12,neF 1 1 34 c19,evC 3 1 5 agg3 f17,evLw 3 2 agg38 size38 f17,evF 3 3 sn21,evC 99 0 5 agg3 f23,ltT 3 4 3 c26,evLw 4 0 agg38 size38 f23,evC 4 2 5 agg3 f23,evV 4 3 (vI ((s.ix) + 1)) (show binA Tryz.prog .add 3 (vI s.ix) (vI 1)=some (vI ((s.ix) + 1)) from add_i64 (by omega) (by omega)),evF 4 4 sn28,evUw 4 5 size38 f30 e33] [evLw 0 0 agg38 size38 f34] (vA #[(vS s.d.name),(vI s.d.rt),(vI s.d.dl),(vL sa s.d.xs.length cp),(vI 2),(vI ((s.ix) + 1)),(vB s.cn),(vI 0),(vI s.bg),(vI 0)]) h32 ⟨by rw [e36],x35⟩
  ·obtain ⟨_,hh37,sn38,rfl,x39⟩:=toS_ok hh20 s _ _ (hl.keep fun b r _ q=>x25 b r q) (by omega) 4 0 0 
   have f40:=x39 _ _ f24
   have x41:=x25.trans x39
   obtain ⟨h42,e43⟩:∃ zq,zq=hh37.setIfInBounds b9 (.cells #[(vS s.d.name),(vI (s.d.rt)),(vI (s.d.dl)),(Value.slice sa (s.d.xs.length) (cp)),(vI 4),(vI 0),(vB s.cn),(vI 0),(vI (s.bg)),(vI 0)] 38 (0,0)):=⟨_,rfl⟩
   have f44:=set_same e43 f40
   have x45:=Ext.setNew x41 e43 o15
   have e46:(freS s res now)=(4,0,0,0):=by unfold freS; rw [if_pos c19,if_neg c26]
   exact hCall_ev [evA 0 0 eb2 e4,evA 0 1 eb10 e12,neF 1 1 34 c19,evC 3 1 5 agg3 f17,evLw 3 2 agg38 size38 f17,evF 3 3 sn21,evC 99 0 5 agg3 f23,ltF 3 4 3 c26,evLw 5 0 agg38 size38 f23,evF 5 1 sn38,evUw 5 2 size38 f40 e43] [evLw 0 0 agg38 size38 f44] (vA #[(vS s.d.name),(vI s.d.rt),(vI s.d.dl),(vL sa s.d.xs.length cp),(vI 4),(vI 0),(vB s.cn),(vI 0),(vI s.bg),(vI 0)]) h42 ⟨by rw [e46],x45⟩
 ·obtain ⟨h47,e48⟩:∃ zq,zq=h11.setIfInBounds b9 (.cells #[(vS s.d.name),(vI (s.d.rt)),(vI (s.d.dl)),(Value.slice sa (s.d.xs.length) (cp)),(vI (s.st)),(vI (s.ix)),(vB s.cn),(vI (s.tr)),(vI (s.bg)),(vI (s.er))] 38 (0,0)):=⟨_,rfl⟩
  have f49:=set_same e48 f13
  have x50:=Ext.setNew x18 e48 o15
  have e51:(freS s res now)=((s.st),(s.ix),(s.tr),(s.er)):=by unfold freS; rw [if_neg c19]
  exact hCall_ev [evA 0 0 eb2 e4,evA 0 1 eb10 e12,neT 1 1 34 c19,evLw 2 0 agg38 size38 f17,evUw 2 1 size38 f13 e48] [evLw 0 0 agg38 size38 f49] (vA #[(vS s.d.name),(vI s.d.rt),(vI s.d.dl),(vL sa s.d.xs.length cp),(vI s.st),(vI s.ix),(vB s.cn),(vI s.tr),(vI s.bg),(vI s.er)]) h47 ⟨by rw [e51],x50⟩
/-- What saga.Saga).undo gives. -/
def undS (s:SagaM) (res:Int) (now:Int):Int × Int × Int:=if ((res):Int)=0 then (if (0:Int) < (s.ix) then (3,((s.ix) - 1),0) else (5,0,0)) else ((s.st),(s.ix),(s.tr))
set_option maxHeartbeats 4000000 in
theorem undS_ok (h:Heap) (s:SagaM) (sa:Option Addr) (cp:Nat) (hl:LAt h stepc 2 s.d.xs (.slice sa s.d.xs.length cp)) (hlen:s.d.xs.length≤9223372036854775807) (res:Int) (now:Int) (hok:chkS s=0):WCall Tryz.prog 180 #[(Value.agg #[(vS s.d.name),(vI (s.d.rt)),(vI (s.d.dl)),(Value.slice sa (s.d.xs.length) (cp)),(vI (s.st)),(vI (s.ix)),(vB s.cn),(vI (s.tr)),(vI (s.bg)),(vI (s.er))]),(vI (res)),(vI (now))] h (fun v h1=>v=(Value.agg #[(vS s.d.name),(vI (s.d.rt)),(vI (s.d.dl)),(Value.slice sa (s.d.xs.length) (cp)),(vI ((undS s res now).1)),(vI ((undS s res now).2.1)),(vB s.cn),(vI ((undS s res now).2.2)),(vI (s.bg)),(vI (s.er))])∧Ext h h1):=by
 obtain ⟨z1742d,z1742b,z1742o⟩:=chkS_zero hok
 have:=defB_of z1742d
 have:=budB_of z1742b
 have z1742i:=okI_of z1742o
 have:=z1742i.1
 obtain ⟨b1,eb2⟩:∃ zq,zq=h.size:=⟨_,rfl⟩
 obtain ⟨h3,e4⟩:∃ zq,zq=h.push (.cells #[(vS s.d.name),(vI (s.d.rt)),(vI (s.d.dl)),(Value.slice sa (s.d.xs.length) (cp)),(vI (s.st)),(vI (s.ix)),(vB s.cn),(vI (s.tr)),(vI (s.bg)),(vI (s.er))] 38 (0,0)):=⟨_,rfl⟩
 have f5:=push_new e4
 rw [← eb2] at f5
 have x6:Ext h h3:=by rw [e4]; exact Ext.push _ _
 have o7:h.size≤b1:=by have:=(Ext.refl h).size; omega
 have x8:=(Ext.refl h).trans x6
 obtain ⟨b9,eb10⟩:∃ zq,zq=h3.size:=⟨_,rfl⟩
 obtain ⟨h11,e12⟩:∃ zq,zq=h3.push (.cells #[(vS .empty),(vI 0),(vI 0),(Value.slice none 0 0),(vI 0),(vI 0),(vB false),(vI 0),(vI 0),(vI 0)] 38 (0,0)):=⟨_,rfl⟩
 have f13:=push_new e12
 rw [← eb10] at f13
 have x14:Ext h3 h11:=by rw [e12]; exact Ext.push _ _
 have o15:h.size≤b9:=by have:=x8.size; omega
 have f17:=x14 _ _ f5
 have x18:=x8.trans x14
 by_cases c19:((res):Int)=0
 ·by_cases c20:(0:Int) < (s.ix)
  ·obtain ⟨_,hh21,sn22,rfl,x23⟩:=toS_ok h11 s _ _ (hl.keep fun b r _ q=>x18 b r q) (by omega) 3 ((s.ix) - 1) (s.er) 
   have f24:=x23 _ _ f13
   have x25:=x18.trans x23
   obtain ⟨h26,e27⟩:∃ zq,zq=hh21.setIfInBounds b9 (.cells #[(vS s.d.name),(vI (s.d.rt)),(vI (s.d.dl)),(Value.slice sa (s.d.xs.length) (cp)),(vI 3),(vI ((s.ix) - 1)),(vB s.cn),(vI 0),(vI (s.bg)),(vI (s.er))] 38 (0,0)):=⟨_,rfl⟩
   have f28:=set_same e27 f24
   have x29:=Ext.setNew x25 e27 o15
   have e30:(undS s res now)=(3,((s.ix) - 1),0):=by unfold undS; rw [if_pos c19,if_pos c20]
   exact hCall_ev [evA 0 0 eb2 e4,evA 0 1 eb10 e12,neF 1 1 34 c19,evC 3 1 5 agg3 f17,gtT 3 2 3 c20,evLw 4 0 agg38 size38 f17,evC 4 2 5 agg3 f17,evV 4 3 (vI ((s.ix) - 1)) (show binA Tryz.prog .sub 3 (vI s.ix) (vI 1)=some (vI ((s.ix) - 1)) from sub_i64 (by omega) (by omega)),evC 4 5 9 agg34 f17,evF 4 6 sn22,evUw 4 7 size38 f24 e27] [evLw 0 0 agg38 size38 f28] (vA #[(vS s.d.name),(vI s.d.rt),(vI s.d.dl),(vL sa s.d.xs.length cp),(vI 3),(vI ((s.ix) - 1)),(vB s.cn),(vI 0),(vI s.bg),(vI s.er)]) h26 ⟨by rw [e30],x29⟩
  ·obtain ⟨_,hh31,sn32,rfl,x33⟩:=toS_ok h11 s _ _ (hl.keep fun b r _ q=>x18 b r q) (by omega) 5 0 (s.er) 
   have f34:=x33 _ _ f13
   have x35:=x18.trans x33
   obtain ⟨h36,e37⟩:∃ zq,zq=hh31.setIfInBounds b9 (.cells #[(vS s.d.name),(vI (s.d.rt)),(vI (s.d.dl)),(Value.slice sa (s.d.xs.length) (cp)),(vI 5),(vI 0),(vB s.cn),(vI 0),(vI (s.bg)),(vI (s.er))] 38 (0,0)):=⟨_,rfl⟩
   have f38:=set_same e37 f34
   have x39:=Ext.setNew x35 e37 o15
   have e40:(undS s res now)=(5,0,0):=by unfold undS; rw [if_pos c19,if_neg c20]
   exact hCall_ev [evA 0 0 eb2 e4,evA 0 1 eb10 e12,neF 1 1 34 c19,evC 3 1 5 agg3 f17,gtF 3 2 3 c20,evLw 5 0 agg38 size38 f17,evC 5 2 9 agg34 f17,evF 5 3 sn32,evUw 5 4 size38 f34 e37] [evLw 0 0 agg38 size38 f38] (vA #[(vS s.d.name),(vI s.d.rt),(vI s.d.dl),(vL sa s.d.xs.length cp),(vI 5),(vI 0),(vB s.cn),(vI 0),(vI s.bg),(vI s.er)]) h36 ⟨by rw [e40],x39⟩
 ·obtain ⟨h41,e42⟩:∃ zq,zq=h11.setIfInBounds b9 (.cells #[(vS s.d.name),(vI (s.d.rt)),(vI (s.d.dl)),(Value.slice sa (s.d.xs.length) (cp)),(vI (s.st)),(vI (s.ix)),(vB s.cn),(vI (s.tr)),(vI (s.bg)),(vI (s.er))] 38 (0,0)):=⟨_,rfl⟩
  have f43:=set_same e42 f13
  have x44:=Ext.setNew x18 e42 o15
  have e45:(undS s res now)=((s.st),(s.ix),(s.tr)):=by unfold undS; rw [if_neg c19]
  exact hCall_ev [evA 0 0 eb2 e4,evA 0 1 eb10 e12,neT 1 1 34 c19,evLw 2 0 agg38 size38 f17,evUw 2 1 size38 f13 e42] [evLw 0 0 agg38 size38 f43] (vA #[(vS s.d.name),(vI s.d.rt),(vI s.d.dl),(vL sa s.d.xs.length cp),(vI s.st),(vI s.ix),(vB s.cn),(vI s.tr),(vI s.bg),(vI s.er)]) h41 ⟨by rw [e45],x44⟩
end C29
