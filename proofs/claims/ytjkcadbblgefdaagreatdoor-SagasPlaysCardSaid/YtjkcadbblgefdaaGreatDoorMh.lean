/- The document: the beginning, cancelling, results that are needed, texts. -/
import Derived.Test.YtjkcadbblgefdaaGreatDoorMf
import Derived.KernelRfl
open Go Go.AM Go.Proofs
namespace C29
set_option maxHeartbeats 4000000 in
theorem rcopyd_ok (h:Heap) (d:DefM) (sa:Option Addr) (cp:Nat) (hl:LAt h stepc 2 d.xs (.slice sa d.xs.length cp)) (hlen:d.xs.length≤1048576):WCall Tryz.prog 92 #[(Value.agg #[(vS d.name),(vI (d.rt)),(vI (d.dl)),(Value.slice sa (d.xs.length) (cp))])] h (fun v h1=>∃ w cw,v=.agg #[(vS d.name),(vI (d.rt)),(vI (d.dl)),(Value.slice w (d.xs.length) (cw))]∧OwnAt h1 67 stepc d.xs (.slice w d.xs.length cw)∧Ext h h1∧∀ b,blk (.slice w d.xs.length cw) b→h.size≤b):=by
 obtain ⟨b1,eb2⟩:∃ zq,zq=h.size:=⟨_,rfl⟩
 obtain ⟨h3,e4⟩:∃ zq,zq=h.push (.cells #[(vS d.name),(vI (d.rt)),(vI (d.dl)),(Value.slice sa (d.xs.length) (cp))] 31 (0,0)):=⟨_,rfl⟩
 have f5:=push_new e4
 rw [← eb2] at f5
 have x6:Ext h h3:=by rw [e4]; exact Ext.push _ _
 have o7:h.size≤b1:=by have:=(Ext.refl h).size; omega
 have x8:=(Ext.refl h).trans x6
 obtain ⟨b9,eb10⟩:∃ zq,zq=h3.size:=⟨_,rfl⟩
 obtain ⟨h11,e12⟩:∃ zq,zq=h3.push (.cells #[(vS .empty),(vI 0),(vI 0),(Value.slice none 0 0)] 31 (0,0)):=⟨_,rfl⟩
 have f13:=push_new e12
 rw [← eb10] at f13
 have n14:b9 ≠ b1:=by have:=row_lt f5; omega
 have x15:Ext h3 h11:=by rw [e12]; exact Ext.push _ _
 have o16:h.size≤b9:=by have:=x8.size; omega
 have f17:=x15 _ _ f5
 have x18:=x8.trans x15
 obtain ⟨b19,eb20⟩:∃ zq,zq=h11.size:=⟨_,rfl⟩
 obtain ⟨h21,e22⟩:∃ zq,zq=h11.push (.cells #[] 67 (0,0)):=⟨_,rfl⟩
 have f23:=push_new e22
 rw [← eb20] at f23
 have n24:b19 ≠ b1:=by have:=row_lt f17; omega
 have n25:b19 ≠ b9:=by have:=row_lt f13; omega
 have x26:Ext h11 h21:=by rw [e22]; exact Ext.push _ _
 have o27:h.size≤b19:=by have:=x18.size; omega
 have f28:=x26 _ _ f17
 have f29:=x26 _ _ f13
 have x30:=x18.trans x26
 obtain ⟨w31,h32,e33,p34,x35,n36⟩:=own_clone und29 sizeb67 zero67 rfl (by decide) stepc_size (ys:=d.xs) f23 ((hl.keep fun b r _ q=>x30 b r q).slice stepc_size) (by omega) (by unfold maxLen; omega)
 obtain ⟨a37,c38,rfl⟩:=(p34.slice stepc_size).len
 have z39:b19 < h21.size:=row_lt f23
 have n40:∀ zz,blk (Value.slice a37 (d.xs.length) (c38)) zz→zz=b19 ∨ h21.size≤zz:=fun zz hz=>by rcases n36 zz hz with e | e <;> omega
 have n41:∀ zz,blk (Value.slice a37 (d.xs.length) (c38)) zz→¬ zz=b1:=fun zz hz ez=>by have:=n24; have:=row_lt f28; rcases n40 zz hz with g | g <;> omega
 have n42:∀ zz,blk (Value.slice a37 (d.xs.length) (c38)) zz→¬ zz=b9:=fun zz hz ez=>by have:=n25; have:=row_lt f29; rcases n40 zz hz with g | g <;> omega
 have o43:∀ zz,blk (Value.slice a37 (d.xs.length) (c38)) zz→h.size≤zz:=fun zz hz=>by have:=o27; have:=x30.size; rcases n40 zz hz with g | g <;> omega
 have f44:=x35 _ _ f28
 have f45:=x35 _ _ f29
 have x46:=x30.trans x35
 obtain ⟨h47,e48⟩:∃ zq,zq=h32.setIfInBounds b1 (.cells #[(vS d.name),(vI (d.rt)),(vI (d.dl)),(Value.slice a37 (d.xs.length) (c38))] 31 (0,0)):=⟨_,rfl⟩
 have f49:=set_same e48 f44
 have f50:=set_other e48 f45 n14.symm
 have p51:=p34.keep fun b r hb q=>(Chg.set e48).same b r q (n41 b hb)
 have x52:=Ext.setNew x46 e48 o7
 obtain ⟨h53,e54⟩:∃ zq,zq=h47.setIfInBounds b9 (.cells #[(vS d.name),(vI (d.rt)),(vI (d.dl)),(Value.slice a37 (d.xs.length) (c38))] 31 (0,0)):=⟨_,rfl⟩
 have f55:=set_same e54 f50
 have p56:=p51.keep fun b r hb q=>(Chg.set e54).same b r q (n42 b hb)
 have x57:=Ext.setNew x52 e54 o16
 exact hCall_ev [evA 0 0 eb2 e4,evA 0 1 eb10 e12,evS 1 0 0 eb20 e22,evC 1 2 3 agg29 f28,evP 1 3 e33,evT 1 5 3 size29 f44 e48,evLw 2 0 agg31 size31 f49,evUw 2 1 size31 f50 e54] [evLw 0 0 agg31 size31 f55] (vA #[(vS d.name),(vI d.rt),(vI d.dl),(vL a37 d.xs.length c38)]) h53 ⟨a37,c38,rfl,p56,x57,o43⟩
set_option maxHeartbeats 4000000 in
theorem rcopys_ok (h:Heap) (s:SagaM) (sa:Option Addr) (cp:Nat) (hl:LAt h stepc 2 s.d.xs (.slice sa s.d.xs.length cp)) (hlen:s.d.xs.length≤1048576):WCall Tryz.prog 66 #[(Value.agg #[(vS s.d.name),(vI (s.d.rt)),(vI (s.d.dl)),(Value.slice sa (s.d.xs.length) (cp)),(vI (s.st)),(vI (s.ix)),(vB s.cn),(vI (s.tr)),(vI (s.bg)),(vI (s.er))])] h (fun v h1=>∃ w cw,v=.agg #[(vS s.d.name),(vI (s.d.rt)),(vI (s.d.dl)),(Value.slice w (s.d.xs.length) (cw)),(vI (s.st)),(vI (s.ix)),(vB s.cn),(vI (s.tr)),(vI (s.bg)),(vI (s.er))]∧OwnAt h1 67 stepc s.d.xs (.slice w s.d.xs.length cw)∧Ext h h1∧∀ b,blk (.slice w s.d.xs.length cw) b→h.size≤b):=by
 obtain ⟨b1,eb2⟩:∃ zq,zq=h.size:=⟨_,rfl⟩
 obtain ⟨h3,e4⟩:∃ zq,zq=h.push (.cells #[(vS s.d.name),(vI (s.d.rt)),(vI (s.d.dl)),(Value.slice sa (s.d.xs.length) (cp)),(vI (s.st)),(vI (s.ix)),(vB s.cn),(vI (s.tr)),(vI (s.bg)),(vI (s.er))] 51 (0,0)):=⟨_,rfl⟩
 have f5:=push_new e4
 rw [← eb2] at f5
 have x6:Ext h h3:=by rw [e4]; exact Ext.push _ _
 have o7:h.size≤b1:=by have:=(Ext.refl h).size; omega
 have x8:=(Ext.refl h).trans x6
 obtain ⟨b9,eb10⟩:∃ zq,zq=h3.size:=⟨_,rfl⟩
 obtain ⟨h11,e12⟩:∃ zq,zq=h3.push (.cells #[(vS .empty),(vI 0),(vI 0),(Value.slice none 0 0),(vI 0),(vI 0),(vB false),(vI 0),(vI 0),(vI 0)] 51 (0,0)):=⟨_,rfl⟩
 have f13:=push_new e12
 rw [← eb10] at f13
 have n14:b9 ≠ b1:=by have:=row_lt f5; omega
 have x15:Ext h3 h11:=by rw [e12]; exact Ext.push _ _
 have o16:h.size≤b9:=by have:=x8.size; omega
 have f17:=x15 _ _ f5
 have x18:=x8.trans x15
 obtain ⟨_,h19,s20,w21,c22,rfl,o23,x24,b25⟩:=rcopyd_ok h11 s.d _ _ (hl.keep fun b r _ q=>x18 b r q) (by omega)
 have f26:=x24 _ _ f17
 have f27:=x24 _ _ f13
 have x28:=x18.trans x24
 have z29:h.size≤h11.size:=x18.size
 have n30:∀ zz,blk (Value.slice w21 (s.d.xs.length) (c22)) zz→¬ zz=b1:=fun zz hz ez=>by have:=b25 zz hz; have:=row_lt f17; omega
 have n31:∀ zz,blk (Value.slice w21 (s.d.xs.length) (c22)) zz→¬ zz=b9:=fun zz hz ez=>by have:=b25 zz hz; have:=row_lt f13; omega
 have o32:∀ zz,blk (Value.slice w21 (s.d.xs.length) (c22)) zz→h.size≤zz:=fun zz hz=>by have:=b25 zz hz; omega
 obtain ⟨h33,e34⟩:∃ zq,zq=h19.setIfInBounds b1 (.cells #[(vS s.d.name),(vI (s.d.rt)),(vI (s.d.dl)),(Value.slice w21 (s.d.xs.length) (c22)),(vI (s.st)),(vI (s.ix)),(vB s.cn),(vI (s.tr)),(vI (s.bg)),(vI (s.er))] 51 (0,0)):=⟨_,rfl⟩
 have f35:=set_same e34 f26
 have f36:=set_other e34 f27 n14.symm
 have p37:=o23.keep fun b r hb q=>(Chg.set e34).same b r q (n30 b hb)
 have x38:=Ext.setNew x28 e34 o7
 obtain ⟨h39,e40⟩:∃ zq,zq=h33.setIfInBounds b9 (.cells #[(vS s.d.name),(vI (s.d.rt)),(vI (s.d.dl)),(Value.slice w21 (s.d.xs.length) (c22)),(vI (s.st)),(vI (s.ix)),(vB s.cn),(vI (s.tr)),(vI (s.bg)),(vI (s.er))] 51 (0,0)):=⟨_,rfl⟩
 have f41:=set_same e40 f36
 have p42:=p37.keep fun b r hb q=>(Chg.set e40).same b r q (n31 b hb)
 have x43:=Ext.setNew x38 e40 o16
 exact hCall_ev [evA 0 0 eb2 e4,evA 0 1 eb10 e12,evL 1 1 0 agg31 size31 f17,evF 1 2 s20,evU 1 4 0 size31 f26 e34,evLw 2 0 agg51 size51 f35,evUw 2 1 size51 f36 e40] [evLw 0 0 agg51 size51 f41] (vA #[(vS s.d.name),(vI s.d.rt),(vI s.d.dl),(vL w21 s.d.xs.length c22),(vI s.st),(vI s.ix),(vB s.cn),(vI s.tr),(vI s.bg),(vI s.er)]) h39 ⟨w21,c22,rfl,p42,x43,o32⟩
theorem nxtS_same {s:SagaM} {res now:Int} (h1:¬ s.st=1) (h:¬ res=0):nxtS s res now=s:=by
 unfold nxtS freS undS
 rw [if_neg h1,if_neg h,if_neg h]
 split <;> rfl
theorem nxtS_2a {s:SagaM} {res now:Int} (h1:s.st=2) (h:res=0) (hi:s.ix < (s.d.xs.length:Nat) - 1):nxtS s res now=⟨s.d,2,s.ix + 1,s.cn,0,s.bg,0⟩:=by
 rw [nxtS_2 h1]; unfold freS; rw [if_pos h,if_pos hi]
theorem nxtS_2b {s:SagaM} {res now:Int} (h1:s.st=2) (h:res=0) (hi:¬ s.ix < (s.d.xs.length:Nat) - 1):nxtS s res now=⟨s.d,4,0,s.cn,0,s.bg,0⟩:=by
 rw [nxtS_2 h1]; unfold freS; rw [if_pos h,if_neg hi]
theorem nxtS_3a {s:SagaM} {res now:Int} (h1:s.st=3) (h:res=0) (hi:0 < s.ix):nxtS s res now=⟨s.d,3,s.ix - 1,s.cn,0,s.bg,s.er⟩:=by
 rw [nxtS_3 h1]; unfold undS; rw [if_pos h,if_pos hi]
theorem nxtS_3b {s:SagaM} {res now:Int} (h1:s.st=3) (h:res=0) (hi:¬ 0 < s.ix):nxtS s res now=⟨s.d,5,0,s.cn,0,s.bg,s.er⟩:=by
 rw [nxtS_3 h1]; unfold undS; rw [if_pos h,if_neg hi]
set_option maxRecDepth 10000 in
set_option maxHeartbeats 4000000 in
theorem rresult_ok (h:Heap) (s:SagaM) (sa:Option Addr) (cp:Nat) (hl:LAt h stepc 2 s.d.xs (.slice sa s.d.xs.length cp)) (hlen:s.d.xs.length≤1048576) (hnm:s.d.name.size≤9223372036854775807) (hks:∀ x ∈ s.d.xs,x.key.size≤9223372036854775807) (e1 e2 e3 res now:Int):WCall Tryz.prog 61 #[(Value.agg #[(vS s.d.name),(vI (s.d.rt)),(vI (s.d.dl)),(Value.slice sa (s.d.xs.length) (cp)),(vI (s.st)),(vI (s.ix)),(vB s.cn),(vI (s.tr)),(vI (s.bg)),(vI (s.er))]),(Value.agg #[(vI (e1)),(vI (e2)),(vI (e3))]),(vI (res)),(vI (now))] h (fun v h1=>(¬ resE s e1 e2 e3 res now=0→v=.tuple #[(Value.agg #[(vS .empty),(vI 0),(vI 0),(Value.slice none 0 0),(vI 0),(vI 0),(vB false),(vI 0),(vI 0),(vI 0)]),.int .i64 (resE s e1 e2 e3 res now)])∧(resE s e1 e2 e3 res now=0→∃ w cw,v=.tuple #[(Value.agg #[(vS s.d.name),(vI (s.d.rt)),(vI (s.d.dl)),(Value.slice w (s.d.xs.length) (cw)),(vI ((nxtS s res now).st)),(vI ((nxtS s res now).ix)),(vB (nxtS s res now).cn),(vI ((nxtS s res now).tr)),(vI ((nxtS s res now).bg)),(vI ((nxtS s res now).er))]),.int .i64 0]∧OwnAt h1 67 stepc s.d.xs (.slice w s.d.xs.length cw)∧∀ b,blk (.slice w s.d.xs.length cw) b→h.size≤b)∧Ext h h1):=by
 obtain ⟨b1,eb2⟩:∃ zq,zq=h.size:=⟨_,rfl⟩
 obtain ⟨h3,e4⟩:∃ zq,zq=h.push (.cells #[(vS s.d.name),(vI (s.d.rt)),(vI (s.d.dl)),(Value.slice sa (s.d.xs.length) (cp)),(vI (s.st)),(vI (s.ix)),(vB s.cn),(vI (s.tr)),(vI (s.bg)),(vI (s.er))] 51 (0,0)):=⟨_,rfl⟩
 have f5:=push_new e4
 rw [← eb2] at f5
 have x6:Ext h h3:=by rw [e4]; exact Ext.push _ _
 have o7:h.size≤b1:=by have:=(Ext.refl h).size; omega
 have x8:=(Ext.refl h).trans x6
 obtain ⟨b9,eb10⟩:∃ zq,zq=h3.size:=⟨_,rfl⟩
 obtain ⟨h11,e12⟩:∃ zq,zq=h3.push (.cells #[(vI (e1)),(vI (e2)),(vI (e3))] 33 (0,0)):=⟨_,rfl⟩
 have f13:=push_new e12
 rw [← eb10] at f13
 have x14:Ext h3 h11:=by rw [e12]; exact Ext.push _ _
 have o15:h.size≤b9:=by have:=x8.size; omega
 have f17:=x14 _ _ f5
 have x18:=x8.trans x14
 obtain ⟨b19,eb20⟩:∃ zq,zq=h11.size:=⟨_,rfl⟩
 obtain ⟨h21,e22⟩:∃ zq,zq=h11.push (.cells #[(vS .empty),(vI 0),(vI 0),(Value.slice none 0 0),(vI 0),(vI 0),(vB false),(vI 0),(vI 0),(vI 0)] 51 (0,0)):=⟨_,rfl⟩
 have f23:=push_new e22
 rw [← eb20] at f23
 have n24:b19 ≠ b1:=by have:=row_lt f17; omega
 have x25:Ext h11 h21:=by rw [e22]; exact Ext.push _ _
 have o26:h.size≤b19:=by have:=x18.size; omega
 have f27:=x25 _ _ f17
 have f28:=x25 _ _ f13
 have x29:=x18.trans x25
 obtain ⟨_,h30,s31,rfl,x32⟩:=rnextV_can h21 s _ _ (hl.keep fun b r _ q=>x29 b r q) (by omega) hnm hks
 have f33:=x32 _ _ f27
 have f34:=x32 _ _ f28
 have f35:=x32 _ _ f23
 have x36:=x29.trans x32
 by_cases c37:((chkS s):Int)=0
 ·obtain ⟨z3180d,z3180b,z3180o⟩:=chkS_zero c37
  have:=defB_of z3180d
  have:=budB_of z3180b
  have z3180i:=okI_of z3180o
  have:=z3180i.1
  by_cases c38:((s.st):Int) < 4
  ·obtain ⟨b39,eb40⟩:∃ zq,zq=h30.size:=⟨_,rfl⟩
   obtain ⟨h41,e42⟩:∃ zq,zq=h30.push (.cells #[(vI 0),(vI 0),(vI 0)] 33 (0,0)):=⟨_,rfl⟩
   have f43:=push_new e42
   rw [← eb40] at f43
   have n44:b39 ≠ b1:=by have:=row_lt f33; omega
   have n45:b39 ≠ b9:=by have:=row_lt f34; omega
   have n46:b39 ≠ b19:=by have:=row_lt f35; omega
   have x47:Ext h30 h41:=by rw [e42]; exact Ext.push _ _
   have o48:h.size≤b39:=by have:=x36.size; omega
   have f49:=x47 _ _ f33
   have f50:=x47 _ _ f34
   have f51:=x47 _ _ f35
   have x52:=x36.trans x47
   obtain ⟨h53,e54⟩:∃ zq,zq=h41.setIfInBounds b39 (.cells #[(vI 0),(vI (s.ix)),(vI (phS (s.st)))] 33 (0,0)):=⟨_,rfl⟩
   have f55:=set_same e54 f43
   have f56:=set_other e54 f49 n44
   have f57:=set_other e54 f50 n45
   have f58:=set_other e54 f51 n46
   have x59:=Ext.setNew x52 e54 o48
   by_cases c60:((res):Int) < 0
   ·obtain ⟨h61,e62⟩:∃ zq,zq=h53.setIfInBounds b19 (.cells #[(vS .empty),(vI 0),(vI 0),(Value.slice none 0 0),(vI 0),(vI 0),(vB false),(vI 0),(vI 0),(vI 0)] 51 (0,0)):=⟨_,rfl⟩
    have f63:=set_same e62 f58
    have x64:=Ext.setNew x59 e62 o26
    have ee:resE s e1 e2 e3 res now=2:=by unfold resE; rw [if_pos c37,if_neg (by omega)]
    exact hCall_ev [evA 0 0 eb2 e4,evA 0 1 eb10 e12,evA 0 2 eb20 e22,evLw 1 0 agg51 size51 f27,evF 1 1 (by rw [nextV_open c37 c38] at s31; exact s31),evA 1 6 eb40 e42,evUw 1 7 size33 f43 e54,ltT 4 1 34 c60,evUw 5 1 size51 f58 e62] [evLw 0 0 agg51 size51 f63,evR (vI 2)] (vT #[(vA #[(vS .empty),(vI 0),(vI 0),(vL none 0 0),(vI 0),(vI 0),(vB false),(vI 0),(vI 0),(vI 0)]),(vI 2)]) h61 ⟨fun _=>by rw [ee],fun w=>absurd (ee.symm.trans w) (by decide),x64⟩
   ·by_cases c65:(18:Int) < (res)
    ·obtain ⟨h66,e67⟩:∃ zq,zq=h53.setIfInBounds b19 (.cells #[(vS .empty),(vI 0),(vI 0),(Value.slice none 0 0),(vI 0),(vI 0),(vB false),(vI 0),(vI 0),(vI 0)] 51 (0,0)):=⟨_,rfl⟩
     have f68:=set_same e67 f58
     have x69:=Ext.setNew x59 e67 o26
     have ee:resE s e1 e2 e3 res now=2:=by unfold resE; rw [if_pos c37,if_neg (by omega)]
     exact hCall_ev [evA 0 0 eb2 e4,evA 0 1 eb10 e12,evA 0 2 eb20 e22,evLw 1 0 agg51 size51 f27,evF 1 1 (by rw [nextV_open c37 c38] at s31; exact s31),evA 1 6 eb40 e42,evUw 1 7 size33 f43 e54,ltF 4 1 34 c60,gtT 4 4 34 c65,evUw 5 1 size51 f58 e67] [evLw 0 0 agg51 size51 f68,evR (vI 2)] (vT #[(vA #[(vS .empty),(vI 0),(vI 0),(vL none 0 0),(vI 0),(vI 0),(vB false),(vI 0),(vI 0),(vI 0)]),(vI 2)]) h66 ⟨fun _=>by rw [ee],fun w=>absurd (ee.symm.trans w) (by decide),x69⟩
    ·by_cases c70:((now):Int) < 0
     ·obtain ⟨h71,e72⟩:∃ zq,zq=h53.setIfInBounds b19 (.cells #[(vS .empty),(vI 0),(vI 0),(Value.slice none 0 0),(vI 0),(vI 0),(vB false),(vI 0),(vI 0),(vI 0)] 51 (0,0)):=⟨_,rfl⟩
      have f73:=set_same e72 f58
      have x74:=Ext.setNew x59 e72 o26
      have ee:resE s e1 e2 e3 res now=2:=by unfold resE; rw [if_pos c37,if_neg (by omega)]
      exact hCall_ev [evA 0 0 eb2 e4,evA 0 1 eb10 e12,evA 0 2 eb20 e22,evLw 1 0 agg51 size51 f27,evF 1 1 (by rw [nextV_open c37 c38] at s31; exact s31),evA 1 6 eb40 e42,evUw 1 7 size33 f43 e54,ltF 4 1 34 c60,gtF 4 4 34 c65,ltT 4 8 3 c70,evUw 5 1 size51 f58 e72] [evLw 0 0 agg51 size51 f73,evR (vI 2)] (vT #[(vA #[(vS .empty),(vI 0),(vI 0),(vL none 0 0),(vI 0),(vI 0),(vB false),(vI 0),(vI 0),(vI 0)]),(vI 2)]) h71 ⟨fun _=>by rw [ee],fun w=>absurd (ee.symm.trans w) (by decide),x74⟩
     ·by_cases c75:(2147483648:Int) < (now)
      ·obtain ⟨h76,e77⟩:∃ zq,zq=h53.setIfInBounds b19 (.cells #[(vS .empty),(vI 0),(vI 0),(Value.slice none 0 0),(vI 0),(vI 0),(vB false),(vI 0),(vI 0),(vI 0)] 51 (0,0)):=⟨_,rfl⟩
       have f78:=set_same e77 f58
       have x79:=Ext.setNew x59 e77 o26
       have ee:resE s e1 e2 e3 res now=2:=by unfold resE; rw [if_pos c37,if_neg (by omega)]
       exact hCall_ev [evA 0 0 eb2 e4,evA 0 1 eb10 e12,evA 0 2 eb20 e22,evLw 1 0 agg51 size51 f27,evF 1 1 (by rw [nextV_open c37 c38] at s31; exact s31),evA 1 6 eb40 e42,evUw 1 7 size33 f43 e54,ltF 4 1 34 c60,gtF 4 4 34 c65,ltF 4 8 3 c70,gtT 4 12 3 c75,evUw 5 1 size51 f58 e77] [evLw 0 0 agg51 size51 f78,evR (vI 2)] (vT #[(vA #[(vS .empty),(vI 0),(vI 0),(vL none 0 0),(vI 0),(vI 0),(vB false),(vI 0),(vI 0),(vI 0)]),(vI 2)]) h76 ⟨fun _=>by rw [ee],fun w=>absurd (ee.symm.trans w) (by decide),x79⟩
      ·by_cases c80:(((e1):Int)=0∧((e2):Int)=(s.ix)∧((e3):Int)=(phS (s.st)))
       ·obtain ⟨_,h81,s82,w83,c84,rfl,o85,x86,b87⟩:=rcopys_ok h53 s _ _ (hl.keep fun b r _ q=>x59 b r q) (by omega)
        have f88:=x86 _ _ f56
        have f89:=x86 _ _ f58
        have x90:=x59.trans x86
        have z91:h.size≤h53.size:=x59.size
        have n92:∀ zz,blk (Value.slice w83 (s.d.xs.length) (c84)) zz→¬ zz=b1:=fun zz hz ez=>by have:=b87 zz hz; have:=row_lt f56; omega
        have n93:∀ zz,blk (Value.slice w83 (s.d.xs.length) (c84)) zz→¬ zz=b19:=fun zz hz ez=>by have:=b87 zz hz; have:=row_lt f58; omega
        have o94:∀ zz,blk (Value.slice w83 (s.d.xs.length) (c84)) zz→h.size≤zz:=fun zz hz=>by have:=b87 zz hz; omega
        obtain ⟨h95,e96⟩:∃ zq,zq=h81.setIfInBounds b1 (.cells #[(vS s.d.name),(vI (s.d.rt)),(vI (s.d.dl)),(Value.slice w83 (s.d.xs.length) (c84)),(vI (s.st)),(vI (s.ix)),(vB s.cn),(vI (s.tr)),(vI (s.bg)),(vI (s.er))] 51 (0,0)):=⟨_,rfl⟩
        have f97:=set_same e96 f88
        have f98:=set_other e96 f89 n24.symm
        have p99:=o85.keep fun b r hb q=>(Chg.set e96).same b r q (n92 b hb)
        have x100:=Ext.setNew x90 e96 o7
        by_cases c101:((s.st):Int)=1
        ·obtain ⟨_,hh102,sn103,rfl,x104⟩:=rfwdS_can h95 s _ _ (OwnAt.lat p99 stepc_size (tsz_of size67)) (by omega) hnm hks (res) (now) c37
         have f105:=x104 _ _ f98
         have p106:=p99.keep fun b r _ q=>x104 b r q
         have x107:=x100.trans x104
         obtain ⟨h108,e109⟩:∃ zq,zq=hh102.setIfInBounds b19 (.cells #[(vS s.d.name),(vI (s.d.rt)),(vI (s.d.dl)),(Value.slice w83 (s.d.xs.length) (c84)),(vI ((fwdS s (res) (now)).1)),(vI ((fwdS s (res) (now)).2.1)),(vB s.cn),(vI ((fwdS s (res) (now)).2.2.1)),(vI ((fwdS s (res) (now)).2.2.2.1)),(vI ((fwdS s (res) (now)).2.2.2.2))] 51 (0,0)):=⟨_,rfl⟩
         have f110:=set_same e109 f105
         have p111:=p106.keep fun b r hb q=>(Chg.set e109).same b r q (n93 b hb)
         have x112:=Ext.setNew x107 e109 o26
         have ee:resE s e1 e2 e3 res now=0:=by unfold resE; rw [if_pos c37,if_pos (by omega),if_pos (by omega),if_pos c80]
         exact hCall_ev [evA 0 0 eb2 e4,evA 0 1 eb10 e12,evA 0 2 eb20 e22,evLw 1 0 agg51 size51 f27,evF 1 1 (by rw [nextV_open c37 c38] at s31; exact s31),evA 1 6 eb40 e42,evUw 1 7 size33 f43 e54,ltF 4 1 34 c60,gtF 4 4 34 c65,ltF 4 8 3 c70,gtF 4 12 3 c75,evLw 8 0 agg33 size33 f57,evLw 8 1 agg33 size33 f55,evQ 8 2 (cmp33_neq (decide_eq_false (not_not_intro c80))),evLw 10 0 agg51 size51 f56,evF 10 1 s82,evUw 10 2 size51 f88 e96,evC 11 1 4 agg3 f97,eqT 11 2 3 c101,evLw 12 0 agg51 size51 f97,evF 12 3 sn103,evUw 12 4 size51 f105 e109] [evLw 0 0 agg51 size51 f110,evR (vI 0)] (vT #[(vA #[(vS s.d.name),(vI s.d.rt),(vI s.d.dl),(vL w83 s.d.xs.length c84),(vI ((fwdS s (res) (now)).1)),(vI ((fwdS s (res) (now)).2.1)),(vB s.cn),(vI ((fwdS s (res) (now)).2.2.1)),(vI ((fwdS s (res) (now)).2.2.2.1)),(vI ((fwdS s (res) (now)).2.2.2.2))]),(vI 0)]) h108 ⟨fun w=>absurd ee w,fun _=>⟨w83,c84,by rw [nxtS_1 c101],p111,o94⟩,x112⟩
        ·by_cases c113:((res):Int)=0
         ·by_cases c114:((s.st):Int)=2
          ·by_cases c115:((s.ix):Int) < (((s.d.xs.length:Nat)) - 1)
           ·obtain ⟨_,hh116,sn117,rfl,x118⟩:=rtoS_ok h95 s _ _ (OwnAt.lat p99 stepc_size (tsz_of size67)) (by omega) 2 ((s.ix) + 1) 0 
            have f119:=x118 _ _ f98
            have p120:=p99.keep fun b r _ q=>x118 b r q
            have x121:=x100.trans x118
            obtain ⟨h122,e123⟩:∃ zq,zq=hh116.setIfInBounds b19 (.cells #[(vS s.d.name),(vI (s.d.rt)),(vI (s.d.dl)),(Value.slice w83 (s.d.xs.length) (c84)),(vI 2),(vI ((s.ix) + 1)),(vB s.cn),(vI 0),(vI (s.bg)),(vI 0)] 51 (0,0)):=⟨_,rfl⟩
            have f124:=set_same e123 f119
            have p125:=p120.keep fun b r hb q=>(Chg.set e123).same b r q (n93 b hb)
            have x126:=Ext.setNew x121 e123 o26
            have ee:resE s e1 e2 e3 res now=0:=by unfold resE; rw [if_pos c37,if_pos (by omega),if_pos (by omega),if_pos c80]
            exact hCall_ev [evA 0 0 eb2 e4,evA 0 1 eb10 e12,evA 0 2 eb20 e22,evLw 1 0 agg51 size51 f27,evF 1 1 (by rw [nextV_open c37 c38] at s31; exact s31),evA 1 6 eb40 e42,evUw 1 7 size33 f43 e54,ltF 4 1 34 c60,gtF 4 4 34 c65,ltF 4 8 3 c70,gtF 4 12 3 c75,evLw 8 0 agg33 size33 f57,evLw 8 1 agg33 size33 f55,evQ 8 2 (cmp33_neq (decide_eq_false (not_not_intro c80))),evLw 10 0 agg51 size51 f56,evF 10 1 s82,evUw 10 2 size51 f88 e96,evC 11 1 4 agg3 f97,eqF 11 2 3 c101,neF 13 1 34 c113,evC 15 1 4 agg3 f97,eqT 15 2 3 c114,evC 16 1 5 agg3 f97,evC 16 4 3 agg29 f97,evV 16 6 (vI (((s.d.xs.length:Nat)) - 1)) (show binA Tryz.prog .sub 3 (vI ((s.d.xs.length:Nat))) (vI 1)=some (vI (((s.d.xs.length:Nat)) - 1)) from sub_i64 (by omega) (by omega)),ltT 16 7 3 c115,evLw 17 0 agg51 size51 f97,evC 17 2 5 agg3 f97,evV 17 3 (vI ((s.ix) + 1)) (show binA Tryz.prog .add 3 (vI s.ix) (vI 1)=some (vI ((s.ix) + 1)) from add_i64 (by omega) (by omega)),evF 17 4 sn117,evUw 17 5 size51 f119 e123] [evLw 0 0 agg51 size51 f124,evR (vI 0)] (vT #[(vA #[(vS s.d.name),(vI s.d.rt),(vI s.d.dl),(vL w83 s.d.xs.length c84),(vI 2),(vI ((s.ix) + 1)),(vB s.cn),(vI 0),(vI s.bg),(vI 0)]),(vI 0)]) h122 ⟨fun w=>absurd ee w,fun _=>⟨w83,c84,by rw [nxtS_2a (by omega) c113 (by omega)],p125,o94⟩,x126⟩
           ·obtain ⟨_,hh127,sn128,rfl,x129⟩:=rtoS_ok h95 s _ _ (OwnAt.lat p99 stepc_size (tsz_of size67)) (by omega) 4 0 0 
            have f130:=x129 _ _ f98
            have p131:=p99.keep fun b r _ q=>x129 b r q
            have x132:=x100.trans x129
            obtain ⟨h133,e134⟩:∃ zq,zq=hh127.setIfInBounds b19 (.cells #[(vS s.d.name),(vI (s.d.rt)),(vI (s.d.dl)),(Value.slice w83 (s.d.xs.length) (c84)),(vI 4),(vI 0),(vB s.cn),(vI 0),(vI (s.bg)),(vI 0)] 51 (0,0)):=⟨_,rfl⟩
            have f135:=set_same e134 f130
            have p136:=p131.keep fun b r hb q=>(Chg.set e134).same b r q (n93 b hb)
            have x137:=Ext.setNew x132 e134 o26
            have ee:resE s e1 e2 e3 res now=0:=by unfold resE; rw [if_pos c37,if_pos (by omega),if_pos (by omega),if_pos c80]
            exact hCall_ev [evA 0 0 eb2 e4,evA 0 1 eb10 e12,evA 0 2 eb20 e22,evLw 1 0 agg51 size51 f27,evF 1 1 (by rw [nextV_open c37 c38] at s31; exact s31),evA 1 6 eb40 e42,evUw 1 7 size33 f43 e54,ltF 4 1 34 c60,gtF 4 4 34 c65,ltF 4 8 3 c70,gtF 4 12 3 c75,evLw 8 0 agg33 size33 f57,evLw 8 1 agg33 size33 f55,evQ 8 2 (cmp33_neq (decide_eq_false (not_not_intro c80))),evLw 10 0 agg51 size51 f56,evF 10 1 s82,evUw 10 2 size51 f88 e96,evC 11 1 4 agg3 f97,eqF 11 2 3 c101,neF 13 1 34 c113,evC 15 1 4 agg3 f97,eqT 15 2 3 c114,evC 16 1 5 agg3 f97,evC 16 4 3 agg29 f97,evV 16 6 (vI (((s.d.xs.length:Nat)) - 1)) (show binA Tryz.prog .sub 3 (vI ((s.d.xs.length:Nat))) (vI 1)=some (vI (((s.d.xs.length:Nat)) - 1)) from sub_i64 (by omega) (by omega)),ltF 16 7 3 c115,evLw 18 0 agg51 size51 f97,evF 18 1 sn128,evUw 18 2 size51 f130 e134] [evLw 0 0 agg51 size51 f135,evR (vI 0)] (vT #[(vA #[(vS s.d.name),(vI s.d.rt),(vI s.d.dl),(vL w83 s.d.xs.length c84),(vI 4),(vI 0),(vB s.cn),(vI 0),(vI s.bg),(vI 0)]),(vI 0)]) h133 ⟨fun w=>absurd ee w,fun _=>⟨w83,c84,by rw [nxtS_2b (by omega) c113 (by omega)],p136,o94⟩,x137⟩
          ·by_cases c138:(0:Int) < (s.ix)
           ·obtain ⟨_,hh139,sn140,rfl,x141⟩:=rtoS_ok h95 s _ _ (OwnAt.lat p99 stepc_size (tsz_of size67)) (by omega) 3 ((s.ix) - 1) (s.er) 
            have f142:=x141 _ _ f98
            have p143:=p99.keep fun b r _ q=>x141 b r q
            have x144:=x100.trans x141
            obtain ⟨h145,e146⟩:∃ zq,zq=hh139.setIfInBounds b19 (.cells #[(vS s.d.name),(vI (s.d.rt)),(vI (s.d.dl)),(Value.slice w83 (s.d.xs.length) (c84)),(vI 3),(vI ((s.ix) - 1)),(vB s.cn),(vI 0),(vI (s.bg)),(vI (s.er))] 51 (0,0)):=⟨_,rfl⟩
            have f147:=set_same e146 f142
            have p148:=p143.keep fun b r hb q=>(Chg.set e146).same b r q (n93 b hb)
            have x149:=Ext.setNew x144 e146 o26
            have ee:resE s e1 e2 e3 res now=0:=by unfold resE; rw [if_pos c37,if_pos (by omega),if_pos (by omega),if_pos c80]
            exact hCall_ev [evA 0 0 eb2 e4,evA 0 1 eb10 e12,evA 0 2 eb20 e22,evLw 1 0 agg51 size51 f27,evF 1 1 (by rw [nextV_open c37 c38] at s31; exact s31),evA 1 6 eb40 e42,evUw 1 7 size33 f43 e54,ltF 4 1 34 c60,gtF 4 4 34 c65,ltF 4 8 3 c70,gtF 4 12 3 c75,evLw 8 0 agg33 size33 f57,evLw 8 1 agg33 size33 f55,evQ 8 2 (cmp33_neq (decide_eq_false (not_not_intro c80))),evLw 10 0 agg51 size51 f56,evF 10 1 s82,evUw 10 2 size51 f88 e96,evC 11 1 4 agg3 f97,eqF 11 2 3 c101,neF 13 1 34 c113,evC 15 1 4 agg3 f97,eqF 15 2 3 c114,evC 19 1 5 agg3 f97,gtT 19 2 3 c138,evLw 20 0 agg51 size51 f97,evC 20 2 5 agg3 f97,evV 20 3 (vI ((s.ix) - 1)) (show binA Tryz.prog .sub 3 (vI s.ix) (vI 1)=some (vI ((s.ix) - 1)) from sub_i64 (by omega) (by omega)),evC 20 5 9 agg34 f97,evF 20 6 sn140,evUw 20 7 size51 f142 e146] [evLw 0 0 agg51 size51 f147,evR (vI 0)] (vT #[(vA #[(vS s.d.name),(vI s.d.rt),(vI s.d.dl),(vL w83 s.d.xs.length c84),(vI 3),(vI ((s.ix) - 1)),(vB s.cn),(vI 0),(vI s.bg),(vI s.er)]),(vI 0)]) h145 ⟨fun w=>absurd ee w,fun _=>⟨w83,c84,by rw [nxtS_3a (by omega) c113 (by omega)],p148,o94⟩,x149⟩
           ·obtain ⟨_,hh150,sn151,rfl,x152⟩:=rtoS_ok h95 s _ _ (OwnAt.lat p99 stepc_size (tsz_of size67)) (by omega) 5 0 (s.er) 
            have f153:=x152 _ _ f98
            have p154:=p99.keep fun b r _ q=>x152 b r q
            have x155:=x100.trans x152
            obtain ⟨h156,e157⟩:∃ zq,zq=hh150.setIfInBounds b19 (.cells #[(vS s.d.name),(vI (s.d.rt)),(vI (s.d.dl)),(Value.slice w83 (s.d.xs.length) (c84)),(vI 5),(vI 0),(vB s.cn),(vI 0),(vI (s.bg)),(vI (s.er))] 51 (0,0)):=⟨_,rfl⟩
            have f158:=set_same e157 f153
            have p159:=p154.keep fun b r hb q=>(Chg.set e157).same b r q (n93 b hb)
            have x160:=Ext.setNew x155 e157 o26
            have ee:resE s e1 e2 e3 res now=0:=by unfold resE; rw [if_pos c37,if_pos (by omega),if_pos (by omega),if_pos c80]
            exact hCall_ev [evA 0 0 eb2 e4,evA 0 1 eb10 e12,evA 0 2 eb20 e22,evLw 1 0 agg51 size51 f27,evF 1 1 (by rw [nextV_open c37 c38] at s31; exact s31),evA 1 6 eb40 e42,evUw 1 7 size33 f43 e54,ltF 4 1 34 c60,gtF 4 4 34 c65,ltF 4 8 3 c70,gtF 4 12 3 c75,evLw 8 0 agg33 size33 f57,evLw 8 1 agg33 size33 f55,evQ 8 2 (cmp33_neq (decide_eq_false (not_not_intro c80))),evLw 10 0 agg51 size51 f56,evF 10 1 s82,evUw 10 2 size51 f88 e96,evC 11 1 4 agg3 f97,eqF 11 2 3 c101,neF 13 1 34 c113,evC 15 1 4 agg3 f97,eqF 15 2 3 c114,evC 19 1 5 agg3 f97,gtF 19 2 3 c138,evLw 21 0 agg51 size51 f97,evC 21 2 9 agg34 f97,evF 21 3 sn151,evUw 21 4 size51 f153 e157] [evLw 0 0 agg51 size51 f158,evR (vI 0)] (vT #[(vA #[(vS s.d.name),(vI s.d.rt),(vI s.d.dl),(vL w83 s.d.xs.length c84),(vI 5),(vI 0),(vB s.cn),(vI 0),(vI s.bg),(vI s.er)]),(vI 0)]) h156 ⟨fun w=>absurd ee w,fun _=>⟨w83,c84,by rw [nxtS_3b (by omega) c113 (by omega)],p159,o94⟩,x160⟩
         ·obtain ⟨h161,e162⟩:∃ zq,zq=h95.setIfInBounds b19 (.cells #[(vS s.d.name),(vI (s.d.rt)),(vI (s.d.dl)),(Value.slice w83 (s.d.xs.length) (c84)),(vI (s.st)),(vI (s.ix)),(vB s.cn),(vI (s.tr)),(vI (s.bg)),(vI (s.er))] 51 (0,0)):=⟨_,rfl⟩
          have f163:=set_same e162 f98
          have p164:=p99.keep fun b r hb q=>(Chg.set e162).same b r q (n93 b hb)
          have x165:=Ext.setNew x100 e162 o26
          have ee:resE s e1 e2 e3 res now=0:=by unfold resE; rw [if_pos c37,if_pos (by omega),if_pos (by omega),if_pos c80]
          exact hCall_ev [evA 0 0 eb2 e4,evA 0 1 eb10 e12,evA 0 2 eb20 e22,evLw 1 0 agg51 size51 f27,evF 1 1 (by rw [nextV_open c37 c38] at s31; exact s31),evA 1 6 eb40 e42,evUw 1 7 size33 f43 e54,ltF 4 1 34 c60,gtF 4 4 34 c65,ltF 4 8 3 c70,gtF 4 12 3 c75,evLw 8 0 agg33 size33 f57,evLw 8 1 agg33 size33 f55,evQ 8 2 (cmp33_neq (decide_eq_false (not_not_intro c80))),evLw 10 0 agg51 size51 f56,evF 10 1 s82,evUw 10 2 size51 f88 e96,evC 11 1 4 agg3 f97,eqF 11 2 3 c101,neT 13 1 34 c113,evLw 14 0 agg51 size51 f97,evUw 14 1 size51 f98 e162] [evLw 0 0 agg51 size51 f163,evR (vI 0)] (vT #[(vA #[(vS s.d.name),(vI s.d.rt),(vI s.d.dl),(vL w83 s.d.xs.length c84),(vI s.st),(vI s.ix),(vB s.cn),(vI s.tr),(vI s.bg),(vI s.er)]),(vI 0)]) h161 ⟨fun w=>absurd ee w,fun _=>⟨w83,c84,by rw [nxtS_same c101 c113],p164,o94⟩,x165⟩
       ·obtain ⟨h166,e167⟩:∃ zq,zq=h53.setIfInBounds b19 (.cells #[(vS .empty),(vI 0),(vI 0),(Value.slice none 0 0),(vI 0),(vI 0),(vB false),(vI 0),(vI 0),(vI 0)] 51 (0,0)):=⟨_,rfl⟩
        have f168:=set_same e167 f58
        have x169:=Ext.setNew x59 e167 o26
        have ee:resE s e1 e2 e3 res now=8:=by unfold resE; rw [if_pos c37,if_pos (by omega),if_pos (by omega),if_neg c80]
        exact hCall_ev [evA 0 0 eb2 e4,evA 0 1 eb10 e12,evA 0 2 eb20 e22,evLw 1 0 agg51 size51 f27,evF 1 1 (by rw [nextV_open c37 c38] at s31; exact s31),evA 1 6 eb40 e42,evUw 1 7 size33 f43 e54,ltF 4 1 34 c60,gtF 4 4 34 c65,ltF 4 8 3 c70,gtF 4 12 3 c75,evLw 8 0 agg33 size33 f57,evLw 8 1 agg33 size33 f55,evQ 8 2 (cmp33_neq (decide_eq_true c80)),evUw 9 1 size51 f58 e167] [evLw 0 0 agg51 size51 f168,evR (vI 8)] (vT #[(vA #[(vS .empty),(vI 0),(vI 0),(vL none 0 0),(vI 0),(vI 0),(vB false),(vI 0),(vI 0),(vI 0)]),(vI 8)]) h166 ⟨fun _=>by rw [ee],fun w=>absurd (ee.symm.trans w) (by decide),x169⟩
  ·obtain ⟨b170,eb171⟩:∃ zq,zq=h30.size:=⟨_,rfl⟩
   obtain ⟨h172,e173⟩:∃ zq,zq=h30.push (.cells #[(vI 0),(vI 0),(vI 0)] 33 (0,0)):=⟨_,rfl⟩
   have f174:=push_new e173
   rw [← eb171] at f174
   have n175:b170 ≠ b19:=by have:=row_lt f35; omega
   have x176:Ext h30 h172:=by rw [e173]; exact Ext.push _ _
   have o177:h.size≤b170:=by have:=x36.size; omega
   have f178:=x176 _ _ f35
   have x179:=x36.trans x176
   obtain ⟨h180,e181⟩:∃ zq,zq=h172.setIfInBounds b170 (.cells #[(vI 0),(vI 0),(vI 0)] 33 (0,0)):=⟨_,rfl⟩
   have f182:=set_other e181 f178 n175
   have x183:=Ext.setNew x179 e181 o177
   by_cases c184:((res):Int) < 0
   ·obtain ⟨h185,e186⟩:∃ zq,zq=h180.setIfInBounds b19 (.cells #[(vS .empty),(vI 0),(vI 0),(Value.slice none 0 0),(vI 0),(vI 0),(vB false),(vI 0),(vI 0),(vI 0)] 51 (0,0)):=⟨_,rfl⟩
    have f187:=set_same e186 f182
    have x188:=Ext.setNew x183 e186 o26
    have ee:resE s e1 e2 e3 res now=2:=by unfold resE; rw [if_pos c37,if_neg (by omega)]
    exact hCall_ev [evA 0 0 eb2 e4,evA 0 1 eb10 e12,evA 0 2 eb20 e22,evLw 1 0 agg51 size51 f27,evF 1 1 (by rw [nextV_done c37 c38] at s31; exact s31),evA 1 6 eb171 e173,evUw 1 7 size33 f174 e181,ltT 4 1 34 c184,evUw 5 1 size51 f182 e186] [evLw 0 0 agg51 size51 f187,evR (vI 2)] (vT #[(vA #[(vS .empty),(vI 0),(vI 0),(vL none 0 0),(vI 0),(vI 0),(vB false),(vI 0),(vI 0),(vI 0)]),(vI 2)]) h185 ⟨fun _=>by rw [ee],fun w=>absurd (ee.symm.trans w) (by decide),x188⟩
   ·by_cases c189:(18:Int) < (res)
    ·obtain ⟨h190,e191⟩:∃ zq,zq=h180.setIfInBounds b19 (.cells #[(vS .empty),(vI 0),(vI 0),(Value.slice none 0 0),(vI 0),(vI 0),(vB false),(vI 0),(vI 0),(vI 0)] 51 (0,0)):=⟨_,rfl⟩
     have f192:=set_same e191 f182
     have x193:=Ext.setNew x183 e191 o26
     have ee:resE s e1 e2 e3 res now=2:=by unfold resE; rw [if_pos c37,if_neg (by omega)]
     exact hCall_ev [evA 0 0 eb2 e4,evA 0 1 eb10 e12,evA 0 2 eb20 e22,evLw 1 0 agg51 size51 f27,evF 1 1 (by rw [nextV_done c37 c38] at s31; exact s31),evA 1 6 eb171 e173,evUw 1 7 size33 f174 e181,ltF 4 1 34 c184,gtT 4 4 34 c189,evUw 5 1 size51 f182 e191] [evLw 0 0 agg51 size51 f192,evR (vI 2)] (vT #[(vA #[(vS .empty),(vI 0),(vI 0),(vL none 0 0),(vI 0),(vI 0),(vB false),(vI 0),(vI 0),(vI 0)]),(vI 2)]) h190 ⟨fun _=>by rw [ee],fun w=>absurd (ee.symm.trans w) (by decide),x193⟩
    ·by_cases c194:((now):Int) < 0
     ·obtain ⟨h195,e196⟩:∃ zq,zq=h180.setIfInBounds b19 (.cells #[(vS .empty),(vI 0),(vI 0),(Value.slice none 0 0),(vI 0),(vI 0),(vB false),(vI 0),(vI 0),(vI 0)] 51 (0,0)):=⟨_,rfl⟩
      have f197:=set_same e196 f182
      have x198:=Ext.setNew x183 e196 o26
      have ee:resE s e1 e2 e3 res now=2:=by unfold resE; rw [if_pos c37,if_neg (by omega)]
      exact hCall_ev [evA 0 0 eb2 e4,evA 0 1 eb10 e12,evA 0 2 eb20 e22,evLw 1 0 agg51 size51 f27,evF 1 1 (by rw [nextV_done c37 c38] at s31; exact s31),evA 1 6 eb171 e173,evUw 1 7 size33 f174 e181,ltF 4 1 34 c184,gtF 4 4 34 c189,ltT 4 8 3 c194,evUw 5 1 size51 f182 e196] [evLw 0 0 agg51 size51 f197,evR (vI 2)] (vT #[(vA #[(vS .empty),(vI 0),(vI 0),(vL none 0 0),(vI 0),(vI 0),(vB false),(vI 0),(vI 0),(vI 0)]),(vI 2)]) h195 ⟨fun _=>by rw [ee],fun w=>absurd (ee.symm.trans w) (by decide),x198⟩
     ·by_cases c199:(2147483648:Int) < (now)
      ·obtain ⟨h200,e201⟩:∃ zq,zq=h180.setIfInBounds b19 (.cells #[(vS .empty),(vI 0),(vI 0),(Value.slice none 0 0),(vI 0),(vI 0),(vB false),(vI 0),(vI 0),(vI 0)] 51 (0,0)):=⟨_,rfl⟩
       have f202:=set_same e201 f182
       have x203:=Ext.setNew x183 e201 o26
       have ee:resE s e1 e2 e3 res now=2:=by unfold resE; rw [if_pos c37,if_neg (by omega)]
       exact hCall_ev [evA 0 0 eb2 e4,evA 0 1 eb10 e12,evA 0 2 eb20 e22,evLw 1 0 agg51 size51 f27,evF 1 1 (by rw [nextV_done c37 c38] at s31; exact s31),evA 1 6 eb171 e173,evUw 1 7 size33 f174 e181,ltF 4 1 34 c184,gtF 4 4 34 c189,ltF 4 8 3 c194,gtT 4 12 3 c199,evUw 5 1 size51 f182 e201] [evLw 0 0 agg51 size51 f202,evR (vI 2)] (vT #[(vA #[(vS .empty),(vI 0),(vI 0),(vL none 0 0),(vI 0),(vI 0),(vB false),(vI 0),(vI 0),(vI 0)]),(vI 2)]) h200 ⟨fun _=>by rw [ee],fun w=>absurd (ee.symm.trans w) (by decide),x203⟩
      ·obtain ⟨h204,e205⟩:∃ zq,zq=h180.setIfInBounds b19 (.cells #[(vS .empty),(vI 0),(vI 0),(Value.slice none 0 0),(vI 0),(vI 0),(vB false),(vI 0),(vI 0),(vI 0)] 51 (0,0)):=⟨_,rfl⟩
       have f206:=set_same e205 f182
       have x207:=Ext.setNew x183 e205 o26
       have ee:resE s e1 e2 e3 res now=9:=by unfold resE; rw [if_pos c37,if_pos (by omega),if_neg (by omega)]
       exact hCall_ev [evA 0 0 eb2 e4,evA 0 1 eb10 e12,evA 0 2 eb20 e22,evLw 1 0 agg51 size51 f27,evF 1 1 (by rw [nextV_done c37 c38] at s31; exact s31),evA 1 6 eb171 e173,evUw 1 7 size33 f174 e181,ltF 4 1 34 c184,gtF 4 4 34 c189,ltF 4 8 3 c194,gtF 4 12 3 c199,evUw 7 1 size51 f182 e205] [evLw 0 0 agg51 size51 f206,evR (vI 9)] (vT #[(vA #[(vS .empty),(vI 0),(vI 0),(vL none 0 0),(vI 0),(vI 0),(vB false),(vI 0),(vI 0),(vI 0)]),(vI 9)]) h204 ⟨fun _=>by rw [ee],fun w=>absurd (ee.symm.trans w) (by decide),x207⟩
 ·obtain ⟨b208,eb209⟩:∃ zq,zq=h30.size:=⟨_,rfl⟩
  obtain ⟨h210,e211⟩:∃ zq,zq=h30.push (.cells #[(vI 0),(vI 0),(vI 0)] 33 (0,0)):=⟨_,rfl⟩
  have f212:=push_new e211
  rw [← eb209] at f212
  have n213:b208 ≠ b19:=by have:=row_lt f35; omega
  have x214:Ext h30 h210:=by rw [e211]; exact Ext.push _ _
  have o215:h.size≤b208:=by have:=x36.size; omega
  have f216:=x214 _ _ f35
  have x217:=x36.trans x214
  obtain ⟨h218,e219⟩:∃ zq,zq=h210.setIfInBounds b208 (.cells #[(vI 0),(vI 0),(vI 0)] 33 (0,0)):=⟨_,rfl⟩
  have f220:=set_other e219 f216 n213
  have x221:=Ext.setNew x217 e219 o215
  obtain ⟨h222,e223⟩:∃ zq,zq=h218.setIfInBounds b19 (.cells #[(vS .empty),(vI 0),(vI 0),(Value.slice none 0 0),(vI 0),(vI 0),(vB false),(vI 0),(vI 0),(vI 0)] 51 (0,0)):=⟨_,rfl⟩
  have f224:=set_same e223 f220
  have x225:=Ext.setNew x221 e223 o26
  have ee:resE s e1 e2 e3 res now=chkS s:=by unfold resE; rw [if_neg c37]
  exact hCall_ev [evA 0 0 eb2 e4,evA 0 1 eb10 e12,evA 0 2 eb20 e22,evLw 1 0 agg51 size51 f27,evF 1 1 (by rw [nextV_bad c37] at s31; exact s31),evA 1 6 eb209 e211,evUw 1 7 size33 f212 e219,neT 2 1 34 c37,evUw 3 2 size51 f220 e223] [evLw 0 0 agg51 size51 f224,evR (vI (chkS s))] (vT #[(vA #[(vS .empty),(vI 0),(vI 0),(vL none 0 0),(vI 0),(vI 0),(vB false),(vI 0),(vI 0),(vI 0)]),(vI (chkS s))]) h222 ⟨fun _=>by rw [ee],fun w=>absurd (ee.symm.trans w) c37,x225⟩
set_option maxHeartbeats 4000000 in
theorem rcancel_ok (h:Heap) (s:SagaM) (sa:Option Addr) (cp:Nat) (hl:LAt h stepc 2 s.d.xs (.slice sa s.d.xs.length cp)) (hlen:s.d.xs.length≤1048576) (hnm:s.d.name.size≤9223372036854775807) (hks:∀ x ∈ s.d.xs,x.key.size≤9223372036854775807):WCall Tryz.prog 62 #[(Value.agg #[(vS s.d.name),(vI (s.d.rt)),(vI (s.d.dl)),(Value.slice sa (s.d.xs.length) (cp)),(vI (s.st)),(vI (s.ix)),(vB s.cn),(vI (s.tr)),(vI (s.bg)),(vI (s.er))])] h (fun v h1=>(¬ canE s=0→v=.tuple #[(Value.agg #[(vS .empty),(vI 0),(vI 0),(Value.slice none 0 0),(vI 0),(vI 0),(vB false),(vI 0),(vI 0),(vI 0)]),.int .i64 (canE s)])∧(canE s=0→∃ w cw,v=.tuple #[(Value.agg #[(vS s.d.name),(vI (s.d.rt)),(vI (s.d.dl)),(Value.slice w (s.d.xs.length) (cw)),(vI ((canS s).st)),(vI ((canS s).ix)),(vB (canS s).cn),(vI ((canS s).tr)),(vI ((canS s).bg)),(vI ((canS s).er))]),.int .i64 0]∧OwnAt h1 67 stepc s.d.xs (.slice w s.d.xs.length cw)∧∀ b,blk (.slice w s.d.xs.length cw) b→h.size≤b)∧Ext h h1):=by
 obtain ⟨b1,eb2⟩:∃ zq,zq=h.size:=⟨_,rfl⟩
 obtain ⟨h3,e4⟩:∃ zq,zq=h.push (.cells #[(vS s.d.name),(vI (s.d.rt)),(vI (s.d.dl)),(Value.slice sa (s.d.xs.length) (cp)),(vI (s.st)),(vI (s.ix)),(vB s.cn),(vI (s.tr)),(vI (s.bg)),(vI (s.er))] 51 (0,0)):=⟨_,rfl⟩
 have f5:=push_new e4
 rw [← eb2] at f5
 have x6:Ext h h3:=by rw [e4]; exact Ext.push _ _
 have o7:h.size≤b1:=by have:=(Ext.refl h).size; omega
 have x8:=(Ext.refl h).trans x6
 obtain ⟨b9,eb10⟩:∃ zq,zq=h3.size:=⟨_,rfl⟩
 obtain ⟨h11,e12⟩:∃ zq,zq=h3.push (.cells #[(vS .empty),(vI 0),(vI 0),(Value.slice none 0 0),(vI 0),(vI 0),(vB false),(vI 0),(vI 0),(vI 0)] 51 (0,0)):=⟨_,rfl⟩
 have f13:=push_new e12
 rw [← eb10] at f13
 have n14:b9 ≠ b1:=by have:=row_lt f5; omega
 have x15:Ext h3 h11:=by rw [e12]; exact Ext.push _ _
 have o16:h.size≤b9:=by have:=x8.size; omega
 have f17:=x15 _ _ f5
 have x18:=x8.trans x15
 obtain ⟨_,h19,s20,rfl,x21⟩:=rscheck_ok h11 s _ _ (hl.keep fun b r _ q=>x18 b r q) (by omega) hnm hks
 have f22:=x21 _ _ f17
 have f23:=x21 _ _ f13
 have x24:=x18.trans x21
 by_cases c25:((chkS s):Int)=0
 ·obtain ⟨z3508d,z3508b,z3508o⟩:=chkS_zero c25
  have:=defB_of z3508d
  have:=budB_of z3508b
  have z3508i:=okI_of z3508o
  have:=z3508i.1
  by_cases c26:((s.st):Int)=1
  ·obtain ⟨_,h27,s28,w29,c30,rfl,o31,x32,b33⟩:=rcopys_ok h19 s _ _ (hl.keep fun b r _ q=>x24 b r q) (by omega)
   have f34:=x32 _ _ f22
   have f35:=x32 _ _ f23
   have x36:=x24.trans x32
   have z37:h.size≤h19.size:=x24.size
   have n38:∀ zz,blk (Value.slice w29 (s.d.xs.length) (c30)) zz→¬ zz=b1:=fun zz hz ez=>by have:=b33 zz hz; have:=row_lt f22; omega
   have n39:∀ zz,blk (Value.slice w29 (s.d.xs.length) (c30)) zz→¬ zz=b9:=fun zz hz ez=>by have:=b33 zz hz; have:=row_lt f23; omega
   have o40:∀ zz,blk (Value.slice w29 (s.d.xs.length) (c30)) zz→h.size≤zz:=fun zz hz=>by have:=b33 zz hz; omega
   obtain ⟨h41,e42⟩:∃ zq,zq=h27.setIfInBounds b1 (.cells #[(vS s.d.name),(vI (s.d.rt)),(vI (s.d.dl)),(Value.slice w29 (s.d.xs.length) (c30)),(vI (s.st)),(vI (s.ix)),(vB s.cn),(vI (s.tr)),(vI (s.bg)),(vI (s.er))] 51 (0,0)):=⟨_,rfl⟩
   have f43:=set_same e42 f34
   have f44:=set_other e42 f35 n14.symm
   have p45:=o31.keep fun b r hb q=>(Chg.set e42).same b r q (n38 b hb)
   have x46:=Ext.setNew x36 e42 o7
   obtain ⟨h47,e48⟩:∃ zq,zq=h41.setIfInBounds b1 (.cells #[(vS s.d.name),(vI (s.d.rt)),(vI (s.d.dl)),(Value.slice w29 (s.d.xs.length) (c30)),(vI (s.st)),(vI (s.ix)),(vB true),(vI (s.tr)),(vI (s.bg)),(vI (s.er))] 51 (0,0)):=⟨_,rfl⟩
   have f49:=set_same e48 f43
   have f50:=set_other e48 f44 n14.symm
   have p51:=p45.keep fun b r hb q=>(Chg.set e48).same b r q (n38 b hb)
   have x52:=Ext.setNew x46 e48 o7
   obtain ⟨h53,e54⟩:∃ zq,zq=h47.setIfInBounds b9 (.cells #[(vS s.d.name),(vI (s.d.rt)),(vI (s.d.dl)),(Value.slice w29 (s.d.xs.length) (c30)),(vI (s.st)),(vI (s.ix)),(vB true),(vI (s.tr)),(vI (s.bg)),(vI (s.er))] 51 (0,0)):=⟨_,rfl⟩
   have f55:=set_same e54 f50
   have p56:=p51.keep fun b r hb q=>(Chg.set e54).same b r q (n39 b hb)
   have x57:=Ext.setNew x52 e54 o16
   have ee:canE s=0:=by unfold canE; rw [if_pos c25,if_pos (by omega)]
   exact hCall_ev [evA 0 0 eb2 e4,evA 0 1 eb10 e12,evLw 1 0 agg51 size51 f17,evFi 1 1 c25 s20,evC 4 1 4 agg3 f22,neF 4 2 3 c26,evLw 6 0 agg51 size51 f22,evF 6 1 s28,evUw 6 2 size51 f34 e42,evT 7 1 6 size4 f43 e48,evLw 8 0 agg51 size51 f49,evUw 8 1 size51 f50 e54] [evLw 0 0 agg51 size51 f55,evR (vI 0)] (vT #[(vA #[(vS s.d.name),(vI s.d.rt),(vI s.d.dl),(vL w29 s.d.xs.length c30),(vI s.st),(vI s.ix),(vB true),(vI s.tr),(vI s.bg),(vI s.er)]),(vI 0)]) h53 ⟨fun w=>absurd ee w,fun _=>⟨w29,c30,rfl,p56,o40⟩,x57⟩
  ·obtain ⟨h58,e59⟩:∃ zq,zq=h19.setIfInBounds b9 (.cells #[(vS .empty),(vI 0),(vI 0),(Value.slice none 0 0),(vI 0),(vI 0),(vB false),(vI 0),(vI 0),(vI 0)] 51 (0,0)):=⟨_,rfl⟩
   have f60:=set_same e59 f23
   have x61:=Ext.setNew x24 e59 o16
   have ee:canE s=9:=by unfold canE; rw [if_pos c25,if_neg (by omega)]
   exact hCall_ev [evA 0 0 eb2 e4,evA 0 1 eb10 e12,evLw 1 0 agg51 size51 f17,evFi 1 1 c25 s20,evC 4 1 4 agg3 f22,neT 4 2 3 c26,evUw 5 1 size51 f23 e59] [evLw 0 0 agg51 size51 f60,evR (vI 9)] (vT #[(vA #[(vS .empty),(vI 0),(vI 0),(vL none 0 0),(vI 0),(vI 0),(vB false),(vI 0),(vI 0),(vI 0)]),(vI 9)]) h58 ⟨fun _=>by rw [ee],fun w=>absurd (ee.symm.trans w) (by decide),x61⟩
 ·obtain ⟨h62,e63⟩:∃ zq,zq=h19.setIfInBounds b9 (.cells #[(vS .empty),(vI 0),(vI 0),(Value.slice none 0 0),(vI 0),(vI 0),(vB false),(vI 0),(vI 0),(vI 0)] 51 (0,0)):=⟨_,rfl⟩
  have f65:=set_same e63 f23
  have x66:=Ext.setNew x24 e63 o16
  have ee:canE s=chkS s:=by unfold canE; rw [if_neg c25]
  exact hCall_ev [evA 0 0 eb2 e4,evA 0 1 eb10 e12,evLw 1 0 agg51 size51 f17,evF 1 1 s20,neT 2 1 34 c25,evUw 3 2 size51 f23 e63] [evLw 0 0 agg51 size51 f65,evR (vI (chkS s))] (vT #[(vA #[(vS .empty),(vI 0),(vI 0),(vL none 0 0),(vI 0),(vI 0),(vB false),(vI 0),(vI 0),(vI 0)]),(vI (chkS s))]) h62 ⟨fun _=>by rw [ee],fun w=>absurd (ee.symm.trans w) c25,x66⟩
set_option maxHeartbeats 4000000 in
theorem rsstart_ok (h:Heap) (d:DefM) (sa:Option Addr) (cp:Nat) (hl:LAt h stepc 2 d.xs (.slice sa d.xs.length cp)) (hlen:d.xs.length≤1048576) (hnm:d.name.size≤9223372036854775807) (hks:∀ x ∈ d.xs,x.key.size≤9223372036854775807) (n:Int):WCall Tryz.prog 54 #[(Value.agg #[(vS d.name),(vI (d.rt)),(vI (d.dl)),(Value.slice sa (d.xs.length) (cp))]),(vI (n))] h (fun v h1=>(¬ staE d n=0→v=.tuple #[(Value.agg #[(vS .empty),(vI 0),(vI 0),(Value.slice none 0 0),(vI 0),(vI 0),(vB false),(vI 0),(vI 0),(vI 0)]),.int .i64 (staE d n)])∧(staE d n=0→∃ w cw,v=.tuple #[(Value.agg #[(vS d.name),(vI (d.rt)),(vI (d.dl)),(Value.slice w (d.xs.length) (cw)),(vI ((staS d n).st)),(vI ((staS d n).ix)),(vB (staS d n).cn),(vI ((staS d n).tr)),(vI ((staS d n).bg)),(vI ((staS d n).er))]),.int .i64 0]∧OwnAt h1 67 stepc d.xs (.slice w d.xs.length cw)∧∀ b,blk (.slice w d.xs.length cw) b→h.size≤b)∧Ext h h1):=by
 obtain ⟨b1,eb2⟩:∃ zq,zq=h.size:=⟨_,rfl⟩
 obtain ⟨h3,e4⟩:∃ zq,zq=h.push (.cells #[(vS d.name),(vI (d.rt)),(vI (d.dl)),(Value.slice sa (d.xs.length) (cp))] 31 (0,0)):=⟨_,rfl⟩
 have f5:=push_new e4
 rw [← eb2] at f5
 have x6:Ext h h3:=by rw [e4]; exact Ext.push _ _
 have o7:h.size≤b1:=by have:=(Ext.refl h).size; omega
 have x8:=(Ext.refl h).trans x6
 obtain ⟨b9,eb10⟩:∃ zq,zq=h3.size:=⟨_,rfl⟩
 obtain ⟨h11,e12⟩:∃ zq,zq=h3.push (.cells #[(vS .empty),(vI 0),(vI 0),(Value.slice none 0 0),(vI 0),(vI 0),(vB false),(vI 0),(vI 0),(vI 0)] 51 (0,0)):=⟨_,rfl⟩
 have f13:=push_new e12
 rw [← eb10] at f13
 have x14:Ext h3 h11:=by rw [e12]; exact Ext.push _ _
 have o15:h.size≤b9:=by have:=x8.size; omega
 have f17:=x14 _ _ f5
 have x18:=x8.trans x14
 obtain ⟨_,hh19,sn20,rfl,x21⟩:=rdcheck_ok h11 d _ _ (hl.keep fun b r _ q=>x18 b r q) (by omega) hnm hks
 have f22:=x21 _ _ f17
 have f23:=x21 _ _ f13
 have x24:=x18.trans x21
 by_cases c25:((if defB d=true then 0 else 15):Int)=0
 ·by_cases c26:((n):Int) < 0
  ·obtain ⟨h27,e28⟩:∃ zq,zq=hh19.setIfInBounds b9 (.cells #[(vS .empty),(vI 0),(vI 0),(Value.slice none 0 0),(vI 0),(vI 0),(vB false),(vI 0),(vI 0),(vI 0)] 51 (0,0)):=⟨_,rfl⟩
   have f29:=set_same e28 f23
   have x30:=Ext.setNew x24 e28 o15
   have ee:staE d n=2:=by unfold staE; rw [if_pos (ifz (by decide) c25),if_neg (by omega)]
   exact hCall_ev [evA 0 0 eb2 e4,evA 0 1 eb10 e12,evLw 1 0 agg31 size31 f17,evF 1 1 sn20,neF 1 2 34 c25,ltT 3 1 3 c26,evUw 4 1 size51 f23 e28] [evLw 0 0 agg51 size51 f29,evR (vI 2)] (vT #[(vA #[(vS .empty),(vI 0),(vI 0),(vL none 0 0),(vI 0),(vI 0),(vB false),(vI 0),(vI 0),(vI 0)]),(vI 2)]) h27 ⟨fun _=>by rw [ee],fun w=>absurd (ee.symm.trans w) (by decide),x30⟩
  ·by_cases c31:(2147483648:Int) < (n)
   ·obtain ⟨h32,e33⟩:∃ zq,zq=hh19.setIfInBounds b9 (.cells #[(vS .empty),(vI 0),(vI 0),(Value.slice none 0 0),(vI 0),(vI 0),(vB false),(vI 0),(vI 0),(vI 0)] 51 (0,0)):=⟨_,rfl⟩
    have f34:=set_same e33 f23
    have x35:=Ext.setNew x24 e33 o15
    have ee:staE d n=2:=by unfold staE; rw [if_pos (ifz (by decide) c25),if_neg (by omega)]
    exact hCall_ev [evA 0 0 eb2 e4,evA 0 1 eb10 e12,evLw 1 0 agg31 size31 f17,evF 1 1 sn20,neF 1 2 34 c25,ltF 3 1 3 c26,gtT 3 4 3 c31,evUw 4 1 size51 f23 e33] [evLw 0 0 agg51 size51 f34,evR (vI 2)] (vT #[(vA #[(vS .empty),(vI 0),(vI 0),(vL none 0 0),(vI 0),(vI 0),(vB false),(vI 0),(vI 0),(vI 0)]),(vI 2)]) h32 ⟨fun _=>by rw [ee],fun w=>absurd (ee.symm.trans w) (by decide),x35⟩
   ·obtain ⟨_,hh36,sn37,rfl,x38⟩:=rstart_ok hh19 d _ _ (hl.keep fun b r _ q=>x24 b r q) (by omega) hnm hks n
    have f39:=x38 _ _ f22
    have f40:=x38 _ _ f23
    have x41:=x24.trans x38
    obtain ⟨b42,eb43⟩:∃ zq,zq=hh36.size:=⟨_,rfl⟩
    obtain ⟨h44,e45⟩:∃ zq,zq=hh36.push (.cells #[(vI 0),(vI 0)] 49 (0,0)):=⟨_,rfl⟩
    have f46:=push_new e45
    rw [← eb43] at f46
    have n47:b42 ≠ b1:=by have:=row_lt f39; omega
    have n48:b42 ≠ b9:=by have:=row_lt f40; omega
    have x49:Ext hh36 h44:=by rw [e45]; exact Ext.push _ _
    have o50:h.size≤b42:=by have:=x41.size; omega
    have f51:=x49 _ _ f39
    have f52:=x49 _ _ f40
    have x53:=x41.trans x49
    obtain ⟨h54,e55⟩:∃ zq,zq=h44.setIfInBounds b42 (.cells #[(vI 0),(vI (stS d n))] 49 (0,0)):=⟨_,rfl⟩
    have f56:=set_same e55 f46
    have f57:=set_other e55 f51 n47
    have f58:=set_other e55 f52 n48
    have x59:=Ext.setNew x53 e55 o50
    obtain ⟨_,h60,s61,w62,c63,rfl,o64,x65,b66⟩:=rcopyd_ok h54 d _ _ (hl.keep fun b r _ q=>x59 b r q) (by omega)
    have f67:=x65 _ _ f58
    have f68:=x65 _ _ f56
    have x69:=x59.trans x65
    have z70:h.size≤h54.size:=x59.size
    have n71:∀ zz,blk (Value.slice w62 (d.xs.length) (c63)) zz→¬ zz=b9:=fun zz hz ez=>by have:=b66 zz hz; have:=row_lt f58; omega
    have o72:∀ zz,blk (Value.slice w62 (d.xs.length) (c63)) zz→h.size≤zz:=fun zz hz=>by have:=b66 zz hz; omega
    obtain ⟨h73,e74⟩:∃ zq,zq=h60.setIfInBounds b9 (.cells #[(vS d.name),(vI (d.rt)),(vI (d.dl)),(Value.slice w62 (d.xs.length) (c63)),(vI 1),(vI 0),(vB false),(vI 0),(vI (stS d n)),(vI 0)] 51 (0,0)):=⟨_,rfl⟩
    have f75:=set_same e74 f67
    have p76:=o64.keep fun b r hb q=>(Chg.set e74).same b r q (n71 b hb)
    have x77:=Ext.setNew x69 e74 o15
    have ee:staE d n=0:=by unfold staE; rw [if_pos (ifz (by decide) c25),if_pos (by omega)]
    have ek:chkE true (defB d) (timB n)=0:=by rw [(ifz (by decide) c25),show timB n=true from decide_eq_true (by omega)]; rfl
    exact hCall_ev [evA 0 0 eb2 e4,evA 0 1 eb10 e12,evLw 1 0 agg31 size31 f17,evF 1 1 sn20,neF 1 2 34 c25,ltF 3 1 3 c26,gtF 3 4 3 c31,evLw 5 0 agg31 size31 f22,evF 5 2 sn37,evA 5 6 eb43 e45,evUw 5 7 size49 f46 e55,evLw 6 0 agg31 size31 f57,evLw 6 2 agg49 size49 f56,evF 6 1 s61,evLw 99 0 agg49 size49 f68,evUw 6 4 size51 f67 e74] [evLw 0 0 agg51 size51 f75,evR (vI 0)] (vT #[(vA #[(vS d.name),(vI d.rt),(vI d.dl),(vL w62 d.xs.length c63),(vI 1),(vI 0),(vB false),(vI 0),(vI (stS d n)),(vI 0)]),(vI 0)]) h73 ⟨fun w=>absurd ee w,fun _=>⟨w62,c63,by rw [show stS d n=n from if_pos ek]; rfl,p76,o72⟩,x77⟩
 ·obtain ⟨h78,e79⟩:∃ zq,zq=hh19.setIfInBounds b9 (.cells #[(vS .empty),(vI 0),(vI 0),(Value.slice none 0 0),(vI 0),(vI 0),(vB false),(vI 0),(vI 0),(vI 0)] 51 (0,0)):=⟨_,rfl⟩
  have f80:=set_same e79 f23
  have x81:=Ext.setNew x24 e79 o15
  have ee:staE d n=15:=by unfold staE; rw [if_neg (fun w=>c25 (by rw [if_pos w]))]
  exact hCall_ev [evA 0 0 eb2 e4,evA 0 1 eb10 e12,evLw 1 0 agg31 size31 f17,evF 1 1 sn20,neT 1 2 34 c25,evUw 2 1 size51 f23 e79] [evLw 0 0 agg51 size51 f80,evR (vI 15)] (vT #[(vA #[(vS .empty),(vI 0),(vI 0),(vL none 0 0),(vI 0),(vI 0),(vB false),(vI 0),(vI 0),(vI 0)]),(vI 15)]) h78 ⟨fun _=>by rw [ee],fun w=>absurd (ee.symm.trans w) (by decide),x81⟩
end C29
