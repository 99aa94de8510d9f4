/- Sagas: which are possible. -/
import Derived.Test.YtjkcadbblgefdaaGreatDoorKh
import Derived.KernelRfl
open Go Go.AM Go.Proofs
namespace C29
theorem agg34:isAggA Tryz.prog 34=some false:=by kernel_rfl
theorem agg38:isAggA Tryz.prog 38=some true:=by kernel_rfl
theorem size38:(Tryz.prog.info? 38).map (·.size)=some 10:=by kernel_rfl
/-- A saga. -/
structure SagaM where
 d:DefM
 st:Int
 ix:Int
 cn:Bool
 tr:Int
 bg:Int
 er:Int
def zeroD:DefM:=⟨.empty,0,0,[]⟩
def zeroS:SagaM:=⟨zeroD,0,0,false,0,0,0⟩
def cnI (b:Bool):Int:=if b=true then 1 else 0
theorem cnI_true {b:Bool} (h:b=true):cnI b=1:=if_pos h
theorem cnI_false {b:Bool} (h:b=false):cnI b=0:=by rw [h]; rfl
/-- Whether the numbers of a saga are possible. -/
def okI (s:SagaM):Bool:=decide ((1≤s.st∧s.st≤5)∧0≤s.ix∧(s.st < 4→s.ix≤(s.d.xs.length:Nat) - 1)∧(4≤s.st→s.ix≤0)∧¬ (cnI s.cn=1∧(s.st=2 ∨ s.st=4))∧((s.st=3 ∨ s.st=5)→1≤s.er∧s.er≤18)∧(¬ (s.st=3 ∨ s.st=5)→s.er=0))
/-- The error of a saga. -/
def chkS (s:SagaM):Int:=if defB s.d=true then (if budB s.tr s.bg=true then (if okI s=true then 0 else 2) else 2) else 15
theorem chkS_def {s:SagaM} (h:defB s.d=false):chkS s=15:=by unfold chkS; rw [h]; rfl
theorem chkS_bud {s:SagaM} (h:defB s.d=true) (h2:budB s.tr s.bg=false):chkS s=2:=by unfold chkS; rw [h,h2]; rfl
theorem chkS_int {s:SagaM} (h:defB s.d=true) (h2:okI s=false):chkS s=2:=by unfold chkS; rw [h,h2]; cases budB s.tr s.bg <;> rfl
theorem chkS_ok {s:SagaM} (h:defB s.d=true) (h2:budB s.tr s.bg=true) (h3:okI s=true):chkS s=0:=by unfold chkS; rw [h,h2,h3]; rfl
theorem chkS_zero {s:SagaM} (h:chkS s=0):defB s.d=true∧budB s.tr s.bg=true∧okI s=true:=by
 unfold chkS at h
 cases h1:defB s.d <;> cases h2:budB s.tr s.bg <;> cases h3:okI s <;> simp_all
theorem okI_of {s:SagaM} (h:okI s=true):(1≤s.st∧s.st≤5)∧0≤s.ix∧(s.st < 4→s.ix≤(s.d.xs.length:Nat) - 1)∧(4≤s.st→s.ix≤0)∧¬ (cnI s.cn=1∧(s.st=2 ∨ s.st=4))∧((s.st=3 ∨ s.st=5)→1≤s.er∧s.er≤18)∧(¬ (s.st=3 ∨ s.st=5)→s.er=0):=of_decide_eq_true h
theorem okI_bad {s:SagaM} (h:¬ ((1≤s.st∧s.st≤5)∧0≤s.ix∧(s.st < 4→s.ix≤(s.d.xs.length:Nat) - 1)∧(4≤s.st→s.ix≤0)∧¬ (cnI s.cn=1∧(s.st=2 ∨ s.st=4))∧((s.st=3 ∨ s.st=5)→1≤s.er∧s.er≤18)∧(¬ (s.st=3 ∨ s.st=5)→s.er=0))):okI s=false:=decide_eq_false h
theorem okI_ok {s:SagaM} (h:(1≤s.st∧s.st≤5)∧0≤s.ix∧(s.st < 4→s.ix≤(s.d.xs.length:Nat) - 1)∧(4≤s.st→s.ix≤0)∧¬ (cnI s.cn=1∧(s.st=2 ∨ s.st=4))∧((s.st=3 ∨ s.st=5)→1≤s.er∧s.er≤18)∧(¬ (s.st=3 ∨ s.st=5)→s.er=0)):okI s=true:=decide_eq_true h
theorem lat_none {h:Heap}:LAt h stepc 2 [] (.slice none 0 0):=⟨.inl ⟨rfl,rfl⟩,fun _ hb=>hb.elim⟩
theorem SliceAt_none {α:Type} {h:Heap} {f:α→Array Value} {z n cp:Nat} {xs:List α} (k:SliceAt h f z xs (.slice none n cp)):n=0∧cp=0∧xs=[]:=by
 rcases k with ⟨e,k⟩ | ⟨b,off,cp,c,e,fr,e2,k⟩
 ·cases e; exact ⟨rfl,rfl,k⟩
 ·cases e2
/-- What saga.Saga).open gives. -/
def openB (s:SagaM):Bool:=if ((s.st):Int) < 4 then true else false
set_option maxHeartbeats 4000000 in
theorem openB_ok (h:Heap) (s:SagaM) (sa:Option Addr) (cp:Nat) (hl:LAt h stepc 2 s.d.xs (.slice sa s.d.xs.length cp)) (hlen:s.d.xs.length≤9223372036854775807):WCall Tryz.prog 83 #[(Value.agg #[(vS s.d.name),(vI (s.d.rt)),(vI (s.d.dl)),(Value.slice sa (s.d.xs.length) (cp)),(vI (s.st)),(vI (s.ix)),(vB s.cn),(vI (s.tr)),(vI (s.bg)),(vI (s.er))])] h (fun v h1=>v=(vB (openB s))∧Ext h h1):=by
 obtain ⟨b1,eb2⟩:∃ zq,zq=h.size:=⟨_,rfl⟩
 obtain ⟨h3,e4⟩:∃ zq,zq=h.push (.cells #[(vS s.d.name),(vI (s.d.rt)),(vI (s.d.dl)),(Value.slice sa (s.d.xs.length) (cp)),(vI (s.st)),(vI (s.ix)),(vB s.cn),(vI (s.tr)),(vI (s.bg)),(vI (s.er))] 38 (0,0)):=⟨_,rfl⟩
 have f5:=push_new e4
 rw [← eb2] at f5
 have x6:Ext h h3:=by rw [e4]; exact Ext.push _ _
 have o7:h.size≤b1:=by have:=(Ext.refl h).size; omega
 have x8:=(Ext.refl h).trans x6
 by_cases c9:((s.st):Int) < 4
 ·have e10:(openB s)=true:=by unfold openB; rw [if_pos c9]
  exact hCall_ev [evA 0 0 eb2 e4,evC 1 1 4 agg3 f5,ltT 1 2 3 c9] [] (vB true) h3 ⟨by rw [e10],x8⟩
 ·have e11:(openB s)=false:=by unfold openB; rw [if_neg c9]
  exact hCall_ev [evA 0 0 eb2 e4,evC 1 1 4 agg3 f5,ltF 1 2 3 c9] [] (vB false) h3 ⟨by rw [e11],x8⟩
/-- What saga.Saga).last gives. -/
def lastV (s:SagaM):Int:=(((s.d.xs.length:Nat)) - 1)
set_option maxHeartbeats 4000000 in
theorem lastV_ok (h:Heap) (s:SagaM) (sa:Option Addr) (cp:Nat) (hl:LAt h stepc 2 s.d.xs (.slice sa s.d.xs.length cp)) (hlen:s.d.xs.length≤9223372036854775807):WCall Tryz.prog 97 #[(Value.agg #[(vS s.d.name),(vI (s.d.rt)),(vI (s.d.dl)),(Value.slice sa (s.d.xs.length) (cp)),(vI (s.st)),(vI (s.ix)),(vB s.cn),(vI (s.tr)),(vI (s.bg)),(vI (s.er))])] h (fun v h1=>v=(vI ((lastV s)))∧Ext h h1):=by
 obtain ⟨b1,eb2⟩:∃ zq,zq=h.size:=⟨_,rfl⟩
 obtain ⟨h3,e4⟩:∃ zq,zq=h.push (.cells #[(vS s.d.name),(vI (s.d.rt)),(vI (s.d.dl)),(Value.slice sa (s.d.xs.length) (cp)),(vI (s.st)),(vI (s.ix)),(vB s.cn),(vI (s.tr)),(vI (s.bg)),(vI (s.er))] 38 (0,0)):=⟨_,rfl⟩
 have f5:=push_new e4
 rw [← eb2] at f5
 have x6:Ext h h3:=by rw [e4]; exact Ext.push _ _
 have o7:h.size≤b1:=by have:=(Ext.refl h).size; omega
 have x8:=(Ext.refl h).trans x6
 have e9:(lastV s)=(((s.d.xs.length:Nat)) - 1):=rfl
 exact hCall_ev [evA 0 0 eb2 e4,evC 1 2 3 agg29 f5,evV 1 4 (vI (((s.d.xs.length:Nat)) - 1)) (show binA Tryz.prog .sub 3 (vI ((s.d.xs.length:Nat))) (vI 1)=some (vI (((s.d.xs.length:Nat)) - 1)) from sub_i64 (by omega) (by omega))] [] (vI (((s.d.xs.length:Nat)) - 1)) h3 ⟨by rw [e9],x8⟩
theorem openB_eq (s:SagaM):openB s=decide (s.st < 4):=by unfold openB; split <;> simp_all
set_option maxHeartbeats 4000000 in
theorem scheck_ok (h:Heap) (s:SagaM) (sa:Option Addr) (cp:Nat) (hl:LAt h stepc 2 s.d.xs (.slice sa s.d.xs.length cp)) (hlen:s.d.xs.length≤9223372036854775807):WCall Tryz.prog 63 #[(Value.agg #[(vS s.d.name),(vI (s.d.rt)),(vI (s.d.dl)),(Value.slice sa (s.d.xs.length) (cp)),(vI (s.st)),(vI (s.ix)),(vB s.cn),(vI (s.tr)),(vI (s.bg)),(vI (s.er))])] h (fun v h1=>v=.int .i64 (chkS s)∧Ext h h1):=by
 obtain ⟨b1,eb2⟩:∃ zq,zq=h.size:=⟨_,rfl⟩
 obtain ⟨h3,e4⟩:∃ zq,zq=h.push (.cells #[(vS s.d.name),(vI (s.d.rt)),(vI (s.d.dl)),(Value.slice sa (s.d.xs.length) (cp)),(vI (s.st)),(vI (s.ix)),(vB s.cn),(vI (s.tr)),(vI (s.bg)),(vI (s.er))] 38 (0,0)):=⟨_,rfl⟩
 have f5:=push_new e4
 rw [← eb2] at f5
 have x6:Ext h h3:=by rw [e4]; exact Ext.push _ _
 have o7:h.size≤b1:=by have:=(Ext.refl h).size; omega
 have x8:=(Ext.refl h).trans x6
 obtain ⟨_,hh9,sn10,rfl,x11⟩:=dcheck_ok h3 s.d _ _ (hl.keep fun b r _ q=>x8 b r q) (by omega)
 have f12:=x11 _ _ f5
 have x13:=x8.trans x11
 by_cases c14:((if defB s.d=true then 0 else 15):Int)=0
 ·obtain ⟨_,h15,s16,rfl,x17⟩:=openB_ok hh9 s _ _ (hl.keep fun b r _ q=>x13 b r q) (by omega)
  rw [openB_eq] at s16
  have f18:=x17 _ _ f12
  have x19:=x13.trans x17
  by_cases c20:((s.st):Int) < 4
  ·obtain ⟨_,hh21,sn22,rfl,x23⟩:=lastV_ok h15 s _ _ (hl.keep fun b r _ q=>x19 b r q) (by omega)
   have f24:=x23 _ _ f18
   have x25:=x19.trans x23
   by_cases c26:((s.st):Int)=3
   ·obtain ⟨_,hh27,sn28,rfl,x29⟩:=bcheck_ok hh21 s.tr s.bg
    have f30:=x29 _ _ f24
    have x31:=x25.trans x29
    by_cases c32:((if budB s.tr s.bg=true then 0 else 2):Int)=0
    ·have c33:¬ ((s.st):Int) < 1:=by omega
     have c34:¬ (5:Int) < (s.st):=by omega
     by_cases c35:((s.ix):Int) < 0
     ·exact hCall_ev [evA 0 0 eb2 e4,evL 1 1 0 agg31 size31 f5,evF 1 2 sn10,neF 1 3 34 c14,evLw 4 0 agg38 size38 f12,evFt 4 1 c20 s16,evLw 5 0 agg38 size38 f18,evF 5 1 sn22,evC 6 1 4 agg3 f24,eqT 6 2 3 c26,evL 7 1 7 agg36 size36 f24,evF 7 2 sn28,neF 7 3 34 c32,evC 8 1 4 agg3 f30,ltF 8 2 3 c33,evC 8 5 4 agg3 f30,gtF 8 6 3 c34,evC 9 1 5 agg3 f30,ltT 9 2 3 c35] [] (vI 2) hh27 ⟨by rw [chkS_int (ifz (by decide) c14) (okI_bad (by omega))],x31⟩
     ·by_cases c36:((((((s.d.xs.length)):Nat)) - 1):Int) < (s.ix)
      ·exact hCall_ev [evA 0 0 eb2 e4,evL 1 1 0 agg31 size31 f5,evF 1 2 sn10,neF 1 3 34 c14,evLw 4 0 agg38 size38 f12,evFt 4 1 c20 s16,evLw 5 0 agg38 size38 f18,evF 5 1 sn22,evC 6 1 4 agg3 f24,eqT 6 2 3 c26,evL 7 1 7 agg36 size36 f24,evF 7 2 sn28,neF 7 3 34 c32,evC 8 1 4 agg3 f30,ltF 8 2 3 c33,evC 8 5 4 agg3 f30,gtF 8 6 3 c34,evC 9 1 5 agg3 f30,ltF 9 2 3 c35,evC 9 5 5 agg3 f30,gtT 9 7 3 c36] [] (vI 2) hh27 ⟨by rw [chkS_int (ifz (by decide) c14) (okI_bad (by omega))],x31⟩
      ·rcases Bool.eq_false_or_eq_true (s.cn) with c37 | c37
       ·have c38:¬ ((s.st):Int)=2:=by omega
        have c39:¬ ((s.st):Int)=4:=by omega
        by_cases c40:((s.er):Int) < 1
        ·have cz:=cnI_true c37
         exact hCall_ev [evA 0 0 eb2 e4,evL 1 1 0 agg31 size31 f5,evF 1 2 sn10,neF 1 3 34 c14,evLw 4 0 agg38 size38 f12,evFt 4 1 c20 s16,evLw 5 0 agg38 size38 f18,evF 5 1 sn22,evC 6 1 4 agg3 f24,eqT 6 2 3 c26,evL 7 1 7 agg36 size36 f24,evF 7 2 sn28,neF 7 3 34 c32,evC 8 1 4 agg3 f30,ltF 8 2 3 c33,evC 8 5 4 agg3 f30,gtF 8 6 3 c34,evC 9 1 5 agg3 f30,ltF 9 2 3 c35,evC 9 5 5 agg3 f30,gtF 9 7 3 c36,evC 10 1 6 agg4 f30,evM 10 2 c37,evC 10 4 4 agg3 f30,eqF 10 5 3 c38,evC 10 8 4 agg3 f30,eqF 10 9 3 c39,evC 11 3 9 agg34 f30,ltT 11 4 34 c40] [] (vI 2) hh27 ⟨by rw [chkS_int (ifz (by decide) c14) (okI_bad (by omega))],x31⟩
        ·by_cases c41:(18:Int) < (s.er)
         ·have cz:=cnI_true c37
          exact hCall_ev [evA 0 0 eb2 e4,evL 1 1 0 agg31 size31 f5,evF 1 2 sn10,neF 1 3 34 c14,evLw 4 0 agg38 size38 f12,evFt 4 1 c20 s16,evLw 5 0 agg38 size38 f18,evF 5 1 sn22,evC 6 1 4 agg3 f24,eqT 6 2 3 c26,evL 7 1 7 agg36 size36 f24,evF 7 2 sn28,neF 7 3 34 c32,evC 8 1 4 agg3 f30,ltF 8 2 3 c33,evC 8 5 4 agg3 f30,gtF 8 6 3 c34,evC 9 1 5 agg3 f30,ltF 9 2 3 c35,evC 9 5 5 agg3 f30,gtF 9 7 3 c36,evC 10 1 6 agg4 f30,evM 10 2 c37,evC 10 4 4 agg3 f30,eqF 10 5 3 c38,evC 10 8 4 agg3 f30,eqF 10 9 3 c39,evC 11 3 9 agg34 f30,ltF 11 4 34 c40,evC 11 7 9 agg34 f30,gtT 11 8 34 c41] [] (vI 2) hh27 ⟨by rw [chkS_int (ifz (by decide) c14) (okI_bad (by omega))],x31⟩
         ·have cz:=cnI_true c37
          exact hCall_ev [evA 0 0 eb2 e4,evL 1 1 0 agg31 size31 f5,evF 1 2 sn10,neF 1 3 34 c14,evLw 4 0 agg38 size38 f12,evFt 4 1 c20 s16,evLw 5 0 agg38 size38 f18,evF 5 1 sn22,evC 6 1 4 agg3 f24,eqT 6 2 3 c26,evL 7 1 7 agg36 size36 f24,evF 7 2 sn28,neF 7 3 34 c32,evC 8 1 4 agg3 f30,ltF 8 2 3 c33,evC 8 5 4 agg3 f30,gtF 8 6 3 c34,evC 9 1 5 agg3 f30,ltF 9 2 3 c35,evC 9 5 5 agg3 f30,gtF 9 7 3 c36,evC 10 1 6 agg4 f30,evM 10 2 c37,evC 10 4 4 agg3 f30,eqF 10 5 3 c38,evC 10 8 4 agg3 f30,eqF 10 9 3 c39,evC 11 3 9 agg34 f30,ltF 11 4 34 c40,evC 11 7 9 agg34 f30,gtF 11 8 34 c41] [] (vI 0) hh27 ⟨by rw [chkS_ok (ifz (by decide) c14) (ifz (by decide) c32) (okI_ok (by omega))],x31⟩
       ·by_cases c42:((s.er):Int) < 1
        ·have cz:=cnI_false c37
         exact hCall_ev [evA 0 0 eb2 e4,evL 1 1 0 agg31 size31 f5,evF 1 2 sn10,neF 1 3 34 c14,evLw 4 0 agg38 size38 f12,evFt 4 1 c20 s16,evLw 5 0 agg38 size38 f18,evF 5 1 sn22,evC 6 1 4 agg3 f24,eqT 6 2 3 c26,evL 7 1 7 agg36 size36 f24,evF 7 2 sn28,neF 7 3 34 c32,evC 8 1 4 agg3 f30,ltF 8 2 3 c33,evC 8 5 4 agg3 f30,gtF 8 6 3 c34,evC 9 1 5 agg3 f30,ltF 9 2 3 c35,evC 9 5 5 agg3 f30,gtF 9 7 3 c36,evC 10 1 6 agg4 f30,evM 10 2 c37,evC 11 3 9 agg34 f30,ltT 11 4 34 c42] [] (vI 2) hh27 ⟨by rw [chkS_int (ifz (by decide) c14) (okI_bad (by omega))],x31⟩
        ·by_cases c43:(18:Int) < (s.er)
         ·have cz:=cnI_false c37
          exact hCall_ev [evA 0 0 eb2 e4,evL 1 1 0 agg31 size31 f5,evF 1 2 sn10,neF 1 3 34 c14,evLw 4 0 agg38 size38 f12,evFt 4 1 c20 s16,evLw 5 0 agg38 size38 f18,evF 5 1 sn22,evC 6 1 4 agg3 f24,eqT 6 2 3 c26,evL 7 1 7 agg36 size36 f24,evF 7 2 sn28,neF 7 3 34 c32,evC 8 1 4 agg3 f30,ltF 8 2 3 c33,evC 8 5 4 agg3 f30,gtF 8 6 3 c34,evC 9 1 5 agg3 f30,ltF 9 2 3 c35,evC 9 5 5 agg3 f30,gtF 9 7 3 c36,evC 10 1 6 agg4 f30,evM 10 2 c37,evC 11 3 9 agg34 f30,ltF 11 4 34 c42,evC 11 7 9 agg34 f30,gtT 11 8 34 c43] [] (vI 2) hh27 ⟨by rw [chkS_int (ifz (by decide) c14) (okI_bad (by omega))],x31⟩
         ·have cz:=cnI_false c37
          exact hCall_ev [evA 0 0 eb2 e4,evL 1 1 0 agg31 size31 f5,evF 1 2 sn10,neF 1 3 34 c14,evLw 4 0 agg38 size38 f12,evFt 4 1 c20 s16,evLw 5 0 agg38 size38 f18,evF 5 1 sn22,evC 6 1 4 agg3 f24,eqT 6 2 3 c26,evL 7 1 7 agg36 size36 f24,evF 7 2 sn28,neF 7 3 34 c32,evC 8 1 4 agg3 f30,ltF 8 2 3 c33,evC 8 5 4 agg3 f30,gtF 8 6 3 c34,evC 9 1 5 agg3 f30,ltF 9 2 3 c35,evC 9 5 5 agg3 f30,gtF 9 7 3 c36,evC 10 1 6 agg4 f30,evM 10 2 c37,evC 11 3 9 agg34 f30,ltF 11 4 34 c42,evC 11 7 9 agg34 f30,gtF 11 8 34 c43] [] (vI 0) hh27 ⟨by rw [chkS_ok (ifz (by decide) c14) (ifz (by decide) c32) (okI_ok (by omega))],x31⟩
    ·exact hCall_ev [evA 0 0 eb2 e4,evL 1 1 0 agg31 size31 f5,evF 1 2 sn10,neF 1 3 34 c14,evLw 4 0 agg38 size38 f12,evFt 4 1 c20 s16,evLw 5 0 agg38 size38 f18,evF 5 1 sn22,evC 6 1 4 agg3 f24,eqT 6 2 3 c26,evL 7 1 7 agg36 size36 f24,evF 7 2 sn28,neT 7 3 34 c32] [] (vI 2) hh27 ⟨by rw [chkS_bud (ifz (by decide) c14) (Bool.eq_false_iff.2 (fun w=>c32 (by rw [if_pos w])))],x31⟩
   ·have c44:¬ ((s.st):Int)=5:=by omega
    obtain ⟨_,hh45,sn46,rfl,x47⟩:=bcheck_ok hh21 s.tr s.bg
    have f48:=x47 _ _ f24
    have x49:=x25.trans x47
    by_cases c50:((if budB s.tr s.bg=true then 0 else 2):Int)=0
    ·by_cases c51:((s.st):Int) < 1
     ·exact hCall_ev [evA 0 0 eb2 e4,evL 1 1 0 agg31 size31 f5,evF 1 2 sn10,neF 1 3 34 c14,evLw 4 0 agg38 size38 f12,evFt 4 1 c20 s16,evLw 5 0 agg38 size38 f18,evF 5 1 sn22,evC 6 1 4 agg3 f24,eqF 6 2 3 c26,evC 6 5 4 agg3 f24,eqF 6 6 3 c44,evL 7 1 7 agg36 size36 f24,evF 7 2 sn46,neF 7 3 34 c50,evC 8 1 4 agg3 f48,ltT 8 2 3 c51] [] (vI 2) hh45 ⟨by rw [chkS_int (ifz (by decide) c14) (okI_bad (by omega))],x49⟩
     ·have c52:¬ (5:Int) < (s.st):=by omega
      by_cases c53:((s.ix):Int) < 0
      ·exact hCall_ev [evA 0 0 eb2 e4,evL 1 1 0 agg31 size31 f5,evF 1 2 sn10,neF 1 3 34 c14,evLw 4 0 agg38 size38 f12,evFt 4 1 c20 s16,evLw 5 0 agg38 size38 f18,evF 5 1 sn22,evC 6 1 4 agg3 f24,eqF 6 2 3 c26,evC 6 5 4 agg3 f24,eqF 6 6 3 c44,evL 7 1 7 agg36 size36 f24,evF 7 2 sn46,neF 7 3 34 c50,evC 8 1 4 agg3 f48,ltF 8 2 3 c51,evC 8 5 4 agg3 f48,gtF 8 6 3 c52,evC 9 1 5 agg3 f48,ltT 9 2 3 c53] [] (vI 2) hh45 ⟨by rw [chkS_int (ifz (by decide) c14) (okI_bad (by omega))],x49⟩
      ·by_cases c54:((((((s.d.xs.length)):Nat)) - 1):Int) < (s.ix)
       ·exact hCall_ev [evA 0 0 eb2 e4,evL 1 1 0 agg31 size31 f5,evF 1 2 sn10,neF 1 3 34 c14,evLw 4 0 agg38 size38 f12,evFt 4 1 c20 s16,evLw 5 0 agg38 size38 f18,evF 5 1 sn22,evC 6 1 4 agg3 f24,eqF 6 2 3 c26,evC 6 5 4 agg3 f24,eqF 6 6 3 c44,evL 7 1 7 agg36 size36 f24,evF 7 2 sn46,neF 7 3 34 c50,evC 8 1 4 agg3 f48,ltF 8 2 3 c51,evC 8 5 4 agg3 f48,gtF 8 6 3 c52,evC 9 1 5 agg3 f48,ltF 9 2 3 c53,evC 9 5 5 agg3 f48,gtT 9 7 3 c54] [] (vI 2) hh45 ⟨by rw [chkS_int (ifz (by decide) c14) (okI_bad (by omega))],x49⟩
       ·rcases Bool.eq_false_or_eq_true (s.cn) with c55 | c55
        ·by_cases c56:((s.st):Int)=2
         ·have cz:=cnI_true c55
          exact hCall_ev [evA 0 0 eb2 e4,evL 1 1 0 agg31 size31 f5,evF 1 2 sn10,neF 1 3 34 c14,evLw 4 0 agg38 size38 f12,evFt 4 1 c20 s16,evLw 5 0 agg38 size38 f18,evF 5 1 sn22,evC 6 1 4 agg3 f24,eqF 6 2 3 c26,evC 6 5 4 agg3 f24,eqF 6 6 3 c44,evL 7 1 7 agg36 size36 f24,evF 7 2 sn46,neF 7 3 34 c50,evC 8 1 4 agg3 f48,ltF 8 2 3 c51,evC 8 5 4 agg3 f48,gtF 8 6 3 c52,evC 9 1 5 agg3 f48,ltF 9 2 3 c53,evC 9 5 5 agg3 f48,gtF 9 7 3 c54,evC 10 1 6 agg4 f48,evM 10 2 c55,evC 10 4 4 agg3 f48,eqT 10 5 3 c56] [] (vI 2) hh45 ⟨by rw [chkS_int (ifz (by decide) c14) (okI_bad (by omega))],x49⟩
         ·have c57:¬ ((s.st):Int)=4:=by omega
          by_cases c58:((s.er):Int)=0
          ·have cz:=cnI_true c55
           exact hCall_ev [evA 0 0 eb2 e4,evL 1 1 0 agg31 size31 f5,evF 1 2 sn10,neF 1 3 34 c14,evLw 4 0 agg38 size38 f12,evFt 4 1 c20 s16,evLw 5 0 agg38 size38 f18,evF 5 1 sn22,evC 6 1 4 agg3 f24,eqF 6 2 3 c26,evC 6 5 4 agg3 f24,eqF 6 6 3 c44,evL 7 1 7 agg36 size36 f24,evF 7 2 sn46,neF 7 3 34 c50,evC 8 1 4 agg3 f48,ltF 8 2 3 c51,evC 8 5 4 agg3 f48,gtF 8 6 3 c52,evC 9 1 5 agg3 f48,ltF 9 2 3 c53,evC 9 5 5 agg3 f48,gtF 9 7 3 c54,evC 10 1 6 agg4 f48,evM 10 2 c55,evC 10 4 4 agg3 f48,eqF 10 5 3 c56,evC 10 8 4 agg3 f48,eqF 10 9 3 c57,evC 12 4 9 agg34 f48,neF 12 5 34 c58] [] (vI 0) hh45 ⟨by rw [chkS_ok (ifz (by decide) c14) (ifz (by decide) c50) (okI_ok (by omega))],x49⟩
          ·have cz:=cnI_true c55
           exact hCall_ev [evA 0 0 eb2 e4,evL 1 1 0 agg31 size31 f5,evF 1 2 sn10,neF 1 3 34 c14,evLw 4 0 agg38 size38 f12,evFt 4 1 c20 s16,evLw 5 0 agg38 size38 f18,evF 5 1 sn22,evC 6 1 4 agg3 f24,eqF 6 2 3 c26,evC 6 5 4 agg3 f24,eqF 6 6 3 c44,evL 7 1 7 agg36 size36 f24,evF 7 2 sn46,neF 7 3 34 c50,evC 8 1 4 agg3 f48,ltF 8 2 3 c51,evC 8 5 4 agg3 f48,gtF 8 6 3 c52,evC 9 1 5 agg3 f48,ltF 9 2 3 c53,evC 9 5 5 agg3 f48,gtF 9 7 3 c54,evC 10 1 6 agg4 f48,evM 10 2 c55,evC 10 4 4 agg3 f48,eqF 10 5 3 c56,evC 10 8 4 agg3 f48,eqF 10 9 3 c57,evC 12 4 9 agg34 f48,neT 12 5 34 c58] [] (vI 2) hh45 ⟨by rw [chkS_int (ifz (by decide) c14) (okI_bad (by omega))],x49⟩
        ·by_cases c59:((s.er):Int)=0
         ·have cz:=cnI_false c55
          exact hCall_ev [evA 0 0 eb2 e4,evL 1 1 0 agg31 size31 f5,evF 1 2 sn10,neF 1 3 34 c14,evLw 4 0 agg38 size38 f12,evFt 4 1 c20 s16,evLw 5 0 agg38 size38 f18,evF 5 1 sn22,evC 6 1 4 agg3 f24,eqF 6 2 3 c26,evC 6 5 4 agg3 f24,eqF 6 6 3 c44,evL 7 1 7 agg36 size36 f24,evF 7 2 sn46,neF 7 3 34 c50,evC 8 1 4 agg3 f48,ltF 8 2 3 c51,evC 8 5 4 agg3 f48,gtF 8 6 3 c52,evC 9 1 5 agg3 f48,ltF 9 2 3 c53,evC 9 5 5 agg3 f48,gtF 9 7 3 c54,evC 10 1 6 agg4 f48,evM 10 2 c55,evC 12 4 9 agg34 f48,neF 12 5 34 c59] [] (vI 0) hh45 ⟨by rw [chkS_ok (ifz (by decide) c14) (ifz (by decide) c50) (okI_ok (by omega))],x49⟩
         ·have cz:=cnI_false c55
          exact hCall_ev [evA 0 0 eb2 e4,evL 1 1 0 agg31 size31 f5,evF 1 2 sn10,neF 1 3 34 c14,evLw 4 0 agg38 size38 f12,evFt 4 1 c20 s16,evLw 5 0 agg38 size38 f18,evF 5 1 sn22,evC 6 1 4 agg3 f24,eqF 6 2 3 c26,evC 6 5 4 agg3 f24,eqF 6 6 3 c44,evL 7 1 7 agg36 size36 f24,evF 7 2 sn46,neF 7 3 34 c50,evC 8 1 4 agg3 f48,ltF 8 2 3 c51,evC 8 5 4 agg3 f48,gtF 8 6 3 c52,evC 9 1 5 agg3 f48,ltF 9 2 3 c53,evC 9 5 5 agg3 f48,gtF 9 7 3 c54,evC 10 1 6 agg4 f48,evM 10 2 c55,evC 12 4 9 agg34 f48,neT 12 5 34 c59] [] (vI 2) hh45 ⟨by rw [chkS_int (ifz (by decide) c14) (okI_bad (by omega))],x49⟩
    ·exact hCall_ev [evA 0 0 eb2 e4,evL 1 1 0 agg31 size31 f5,evF 1 2 sn10,neF 1 3 34 c14,evLw 4 0 agg38 size38 f12,evFt 4 1 c20 s16,evLw 5 0 agg38 size38 f18,evF 5 1 sn22,evC 6 1 4 agg3 f24,eqF 6 2 3 c26,evC 6 5 4 agg3 f24,eqF 6 6 3 c44,evL 7 1 7 agg36 size36 f24,evF 7 2 sn46,neT 7 3 34 c50] [] (vI 2) hh45 ⟨by rw [chkS_bud (ifz (by decide) c14) (Bool.eq_false_iff.2 (fun w=>c50 (by rw [if_pos w])))],x49⟩
  ·have c60:¬ ((s.st):Int)=3:=by omega
   by_cases c61:((s.st):Int)=5
   ·obtain ⟨_,hh62,sn63,rfl,x64⟩:=bcheck_ok h15 s.tr s.bg
    have f65:=x64 _ _ f18
    have x66:=x19.trans x64
    by_cases c67:((if budB s.tr s.bg=true then 0 else 2):Int)=0
    ·have c68:¬ ((s.st):Int) < 1:=by omega
     have c69:¬ (5:Int) < (s.st):=by omega
     by_cases c70:((s.ix):Int) < 0
     ·exact hCall_ev [evA 0 0 eb2 e4,evL 1 1 0 agg31 size31 f5,evF 1 2 sn10,neF 1 3 34 c14,evLw 4 0 agg38 size38 f12,evFf 4 1 c20 s16,evC 6 1 4 agg3 f18,eqF 6 2 3 c60,evC 6 5 4 agg3 f18,eqT 6 6 3 c61,evL 7 1 7 agg36 size36 f18,evF 7 2 sn63,neF 7 3 34 c67,evC 8 1 4 agg3 f65,ltF 8 2 3 c68,evC 8 5 4 agg3 f65,gtF 8 6 3 c69,evC 9 1 5 agg3 f65,ltT 9 2 3 c70] [] (vI 2) hh62 ⟨by rw [chkS_int (ifz (by decide) c14) (okI_bad (by omega))],x66⟩
     ·by_cases c71:(0:Int) < (s.ix)
      ·exact hCall_ev [evA 0 0 eb2 e4,evL 1 1 0 agg31 size31 f5,evF 1 2 sn10,neF 1 3 34 c14,evLw 4 0 agg38 size38 f12,evFf 4 1 c20 s16,evC 6 1 4 agg3 f18,eqF 6 2 3 c60,evC 6 5 4 agg3 f18,eqT 6 6 3 c61,evL 7 1 7 agg36 size36 f18,evF 7 2 sn63,neF 7 3 34 c67,evC 8 1 4 agg3 f65,ltF 8 2 3 c68,evC 8 5 4 agg3 f65,gtF 8 6 3 c69,evC 9 1 5 agg3 f65,ltF 9 2 3 c70,evC 9 5 5 agg3 f65,gtT 9 7 3 c71] [] (vI 2) hh62 ⟨by rw [chkS_int (ifz (by decide) c14) (okI_bad (by omega))],x66⟩
      ·rcases Bool.eq_false_or_eq_true (s.cn) with c72 | c72
       ·have c73:¬ ((s.st):Int)=2:=by omega
        have c74:¬ ((s.st):Int)=4:=by omega
        by_cases c75:((s.er):Int) < 1
        ·have cz:=cnI_true c72
         exact hCall_ev [evA 0 0 eb2 e4,evL 1 1 0 agg31 size31 f5,evF 1 2 sn10,neF 1 3 34 c14,evLw 4 0 agg38 size38 f12,evFf 4 1 c20 s16,evC 6 1 4 agg3 f18,eqF 6 2 3 c60,evC 6 5 4 agg3 f18,eqT 6 6 3 c61,evL 7 1 7 agg36 size36 f18,evF 7 2 sn63,neF 7 3 34 c67,evC 8 1 4 agg3 f65,ltF 8 2 3 c68,evC 8 5 4 agg3 f65,gtF 8 6 3 c69,evC 9 1 5 agg3 f65,ltF 9 2 3 c70,evC 9 5 5 agg3 f65,gtF 9 7 3 c71,evC 10 1 6 agg4 f65,evM 10 2 c72,evC 10 4 4 agg3 f65,eqF 10 5 3 c73,evC 10 8 4 agg3 f65,eqF 10 9 3 c74,evC 11 3 9 agg34 f65,ltT 11 4 34 c75] [] (vI 2) hh62 ⟨by rw [chkS_int (ifz (by decide) c14) (okI_bad (by omega))],x66⟩
        ·by_cases c76:(18:Int) < (s.er)
         ·have cz:=cnI_true c72
          exact hCall_ev [evA 0 0 eb2 e4,evL 1 1 0 agg31 size31 f5,evF 1 2 sn10,neF 1 3 34 c14,evLw 4 0 agg38 size38 f12,evFf 4 1 c20 s16,evC 6 1 4 agg3 f18,eqF 6 2 3 c60,evC 6 5 4 agg3 f18,eqT 6 6 3 c61,evL 7 1 7 agg36 size36 f18,evF 7 2 sn63,neF 7 3 34 c67,evC 8 1 4 agg3 f65,ltF 8 2 3 c68,evC 8 5 4 agg3 f65,gtF 8 6 3 c69,evC 9 1 5 agg3 f65,ltF 9 2 3 c70,evC 9 5 5 agg3 f65,gtF 9 7 3 c71,evC 10 1 6 agg4 f65,evM 10 2 c72,evC 10 4 4 agg3 f65,eqF 10 5 3 c73,evC 10 8 4 agg3 f65,eqF 10 9 3 c74,evC 11 3 9 agg34 f65,ltF 11 4 34 c75,evC 11 7 9 agg34 f65,gtT 11 8 34 c76] [] (vI 2) hh62 ⟨by rw [chkS_int (ifz (by decide) c14) (okI_bad (by omega))],x66⟩
         ·have cz:=cnI_true c72
          exact hCall_ev [evA 0 0 eb2 e4,evL 1 1 0 agg31 size31 f5,evF 1 2 sn10,neF 1 3 34 c14,evLw 4 0 agg38 size38 f12,evFf 4 1 c20 s16,evC 6 1 4 agg3 f18,eqF 6 2 3 c60,evC 6 5 4 agg3 f18,eqT 6 6 3 c61,evL 7 1 7 agg36 size36 f18,evF 7 2 sn63,neF 7 3 34 c67,evC 8 1 4 agg3 f65,ltF 8 2 3 c68,evC 8 5 4 agg3 f65,gtF 8 6 3 c69,evC 9 1 5 agg3 f65,ltF 9 2 3 c70,evC 9 5 5 agg3 f65,gtF 9 7 3 c71,evC 10 1 6 agg4 f65,evM 10 2 c72,evC 10 4 4 agg3 f65,eqF 10 5 3 c73,evC 10 8 4 agg3 f65,eqF 10 9 3 c74,evC 11 3 9 agg34 f65,ltF 11 4 34 c75,evC 11 7 9 agg34 f65,gtF 11 8 34 c76] [] (vI 0) hh62 ⟨by rw [chkS_ok (ifz (by decide) c14) (ifz (by decide) c67) (okI_ok (by omega))],x66⟩
       ·by_cases c77:((s.er):Int) < 1
        ·have cz:=cnI_false c72
         exact hCall_ev [evA 0 0 eb2 e4,evL 1 1 0 agg31 size31 f5,evF 1 2 sn10,neF 1 3 34 c14,evLw 4 0 agg38 size38 f12,evFf 4 1 c20 s16,evC 6 1 4 agg3 f18,eqF 6 2 3 c60,evC 6 5 4 agg3 f18,eqT 6 6 3 c61,evL 7 1 7 agg36 size36 f18,evF 7 2 sn63,neF 7 3 34 c67,evC 8 1 4 agg3 f65,ltF 8 2 3 c68,evC 8 5 4 agg3 f65,gtF 8 6 3 c69,evC 9 1 5 agg3 f65,ltF 9 2 3 c70,evC 9 5 5 agg3 f65,gtF 9 7 3 c71,evC 10 1 6 agg4 f65,evM 10 2 c72,evC 11 3 9 agg34 f65,ltT 11 4 34 c77] [] (vI 2) hh62 ⟨by rw [chkS_int (ifz (by decide) c14) (okI_bad (by omega))],x66⟩
        ·by_cases c78:(18:Int) < (s.er)
         ·have cz:=cnI_false c72
          exact hCall_ev [evA 0 0 eb2 e4,evL 1 1 0 agg31 size31 f5,evF 1 2 sn10,neF 1 3 34 c14,evLw 4 0 agg38 size38 f12,evFf 4 1 c20 s16,evC 6 1 4 agg3 f18,eqF 6 2 3 c60,evC 6 5 4 agg3 f18,eqT 6 6 3 c61,evL 7 1 7 agg36 size36 f18,evF 7 2 sn63,neF 7 3 34 c67,evC 8 1 4 agg3 f65,ltF 8 2 3 c68,evC 8 5 4 agg3 f65,gtF 8 6 3 c69,evC 9 1 5 agg3 f65,ltF 9 2 3 c70,evC 9 5 5 agg3 f65,gtF 9 7 3 c71,evC 10 1 6 agg4 f65,evM 10 2 c72,evC 11 3 9 agg34 f65,ltF 11 4 34 c77,evC 11 7 9 agg34 f65,gtT 11 8 34 c78] [] (vI 2) hh62 ⟨by rw [chkS_int (ifz (by decide) c14) (okI_bad (by omega))],x66⟩
         ·have cz:=cnI_false c72
          exact hCall_ev [evA 0 0 eb2 e4,evL 1 1 0 agg31 size31 f5,evF 1 2 sn10,neF 1 3 34 c14,evLw 4 0 agg38 size38 f12,evFf 4 1 c20 s16,evC 6 1 4 agg3 f18,eqF 6 2 3 c60,evC 6 5 4 agg3 f18,eqT 6 6 3 c61,evL 7 1 7 agg36 size36 f18,evF 7 2 sn63,neF 7 3 34 c67,evC 8 1 4 agg3 f65,ltF 8 2 3 c68,evC 8 5 4 agg3 f65,gtF 8 6 3 c69,evC 9 1 5 agg3 f65,ltF 9 2 3 c70,evC 9 5 5 agg3 f65,gtF 9 7 3 c71,evC 10 1 6 agg4 f65,evM 10 2 c72,evC 11 3 9 agg34 f65,ltF 11 4 34 c77,evC 11 7 9 agg34 f65,gtF 11 8 34 c78] [] (vI 0) hh62 ⟨by rw [chkS_ok (ifz (by decide) c14) (ifz (by decide) c67) (okI_ok (by omega))],x66⟩
    ·exact hCall_ev [evA 0 0 eb2 e4,evL 1 1 0 agg31 size31 f5,evF 1 2 sn10,neF 1 3 34 c14,evLw 4 0 agg38 size38 f12,evFf 4 1 c20 s16,evC 6 1 4 agg3 f18,eqF 6 2 3 c60,evC 6 5 4 agg3 f18,eqT 6 6 3 c61,evL 7 1 7 agg36 size36 f18,evF 7 2 sn63,neT 7 3 34 c67] [] (vI 2) hh62 ⟨by rw [chkS_bud (ifz (by decide) c14) (Bool.eq_false_iff.2 (fun w=>c67 (by rw [if_pos w])))],x66⟩
   ·obtain ⟨_,hh79,sn80,rfl,x81⟩:=bcheck_ok h15 s.tr s.bg
    have f82:=x81 _ _ f18
    have x83:=x19.trans x81
    by_cases c84:((if budB s.tr s.bg=true then 0 else 2):Int)=0
    ·have c85:¬ ((s.st):Int) < 1:=by omega
     by_cases c86:(5:Int) < (s.st)
     ·exact hCall_ev [evA 0 0 eb2 e4,evL 1 1 0 agg31 size31 f5,evF 1 2 sn10,neF 1 3 34 c14,evLw 4 0 agg38 size38 f12,evFf 4 1 c20 s16,evC 6 1 4 agg3 f18,eqF 6 2 3 c60,evC 6 5 4 agg3 f18,eqF 6 6 3 c61,evL 7 1 7 agg36 size36 f18,evF 7 2 sn80,neF 7 3 34 c84,evC 8 1 4 agg3 f82,ltF 8 2 3 c85,evC 8 5 4 agg3 f82,gtT 8 6 3 c86] [] (vI 2) hh79 ⟨by rw [chkS_int (ifz (by decide) c14) (okI_bad (by omega))],x83⟩
     ·by_cases c87:((s.ix):Int) < 0
      ·exact hCall_ev [evA 0 0 eb2 e4,evL 1 1 0 agg31 size31 f5,evF 1 2 sn10,neF 1 3 34 c14,evLw 4 0 agg38 size38 f12,evFf 4 1 c20 s16,evC 6 1 4 agg3 f18,eqF 6 2 3 c60,evC 6 5 4 agg3 f18,eqF 6 6 3 c61,evL 7 1 7 agg36 size36 f18,evF 7 2 sn80,neF 7 3 34 c84,evC 8 1 4 agg3 f82,ltF 8 2 3 c85,evC 8 5 4 agg3 f82,gtF 8 6 3 c86,evC 9 1 5 agg3 f82,ltT 9 2 3 c87] [] (vI 2) hh79 ⟨by rw [chkS_int (ifz (by decide) c14) (okI_bad (by omega))],x83⟩
      ·by_cases c88:(0:Int) < (s.ix)
       ·exact hCall_ev [evA 0 0 eb2 e4,evL 1 1 0 agg31 size31 f5,evF 1 2 sn10,neF 1 3 34 c14,evLw 4 0 agg38 size38 f12,evFf 4 1 c20 s16,evC 6 1 4 agg3 f18,eqF 6 2 3 c60,evC 6 5 4 agg3 f18,eqF 6 6 3 c61,evL 7 1 7 agg36 size36 f18,evF 7 2 sn80,neF 7 3 34 c84,evC 8 1 4 agg3 f82,ltF 8 2 3 c85,evC 8 5 4 agg3 f82,gtF 8 6 3 c86,evC 9 1 5 agg3 f82,ltF 9 2 3 c87,evC 9 5 5 agg3 f82,gtT 9 7 3 c88] [] (vI 2) hh79 ⟨by rw [chkS_int (ifz (by decide) c14) (okI_bad (by omega))],x83⟩
       ·rcases Bool.eq_false_or_eq_true (s.cn) with c89 | c89
        ·have c90:¬ ((s.st):Int)=2:=by omega
         have c91:((s.st):Int)=4:=by omega
         have cz:=cnI_true c89
         exact hCall_ev [evA 0 0 eb2 e4,evL 1 1 0 agg31 size31 f5,evF 1 2 sn10,neF 1 3 34 c14,evLw 4 0 agg38 size38 f12,evFf 4 1 c20 s16,evC 6 1 4 agg3 f18,eqF 6 2 3 c60,evC 6 5 4 agg3 f18,eqF 6 6 3 c61,evL 7 1 7 agg36 size36 f18,evF 7 2 sn80,neF 7 3 34 c84,evC 8 1 4 agg3 f82,ltF 8 2 3 c85,evC 8 5 4 agg3 f82,gtF 8 6 3 c86,evC 9 1 5 agg3 f82,ltF 9 2 3 c87,evC 9 5 5 agg3 f82,gtF 9 7 3 c88,evC 10 1 6 agg4 f82,evM 10 2 c89,evC 10 4 4 agg3 f82,eqF 10 5 3 c90,evC 10 8 4 agg3 f82,eqT 10 9 3 c91] [] (vI 2) hh79 ⟨by rw [chkS_int (ifz (by decide) c14) (okI_bad (by omega))],x83⟩
        ·by_cases c92:((s.er):Int)=0
         ·have cz:=cnI_false c89
          exact hCall_ev [evA 0 0 eb2 e4,evL 1 1 0 agg31 size31 f5,evF 1 2 sn10,neF 1 3 34 c14,evLw 4 0 agg38 size38 f12,evFf 4 1 c20 s16,evC 6 1 4 agg3 f18,eqF 6 2 3 c60,evC 6 5 4 agg3 f18,eqF 6 6 3 c61,evL 7 1 7 agg36 size36 f18,evF 7 2 sn80,neF 7 3 34 c84,evC 8 1 4 agg3 f82,ltF 8 2 3 c85,evC 8 5 4 agg3 f82,gtF 8 6 3 c86,evC 9 1 5 agg3 f82,ltF 9 2 3 c87,evC 9 5 5 agg3 f82,gtF 9 7 3 c88,evC 10 1 6 agg4 f82,evM 10 2 c89,evC 12 4 9 agg34 f82,neF 12 5 34 c92] [] (vI 0) hh79 ⟨by rw [chkS_ok (ifz (by decide) c14) (ifz (by decide) c84) (okI_ok (by omega))],x83⟩
         ·have cz:=cnI_false c89
          exact hCall_ev [evA 0 0 eb2 e4,evL 1 1 0 agg31 size31 f5,evF 1 2 sn10,neF 1 3 34 c14,evLw 4 0 agg38 size38 f12,evFf 4 1 c20 s16,evC 6 1 4 agg3 f18,eqF 6 2 3 c60,evC 6 5 4 agg3 f18,eqF 6 6 3 c61,evL 7 1 7 agg36 size36 f18,evF 7 2 sn80,neF 7 3 34 c84,evC 8 1 4 agg3 f82,ltF 8 2 3 c85,evC 8 5 4 agg3 f82,gtF 8 6 3 c86,evC 9 1 5 agg3 f82,ltF 9 2 3 c87,evC 9 5 5 agg3 f82,gtF 9 7 3 c88,evC 10 1 6 agg4 f82,evM 10 2 c89,evC 12 4 9 agg34 f82,neT 12 5 34 c92] [] (vI 2) hh79 ⟨by rw [chkS_int (ifz (by decide) c14) (okI_bad (by omega))],x83⟩
    ·exact hCall_ev [evA 0 0 eb2 e4,evL 1 1 0 agg31 size31 f5,evF 1 2 sn10,neF 1 3 34 c14,evLw 4 0 agg38 size38 f12,evFf 4 1 c20 s16,evC 6 1 4 agg3 f18,eqF 6 2 3 c60,evC 6 5 4 agg3 f18,eqF 6 6 3 c61,evL 7 1 7 agg36 size36 f18,evF 7 2 sn80,neT 7 3 34 c84] [] (vI 2) hh79 ⟨by rw [chkS_bud (ifz (by decide) c14) (Bool.eq_false_iff.2 (fun w=>c84 (by rw [if_pos w])))],x83⟩
 ·exact hCall_ev [evA 0 0 eb2 e4,evL 1 1 0 agg31 size31 f5,evF 1 2 sn10,neT 1 3 34 c14] [] (vI 15) hh9 ⟨by rw [chkS_def (Bool.eq_false_iff.2 (fun w=>c14 (by rw [if_pos w])))],x13⟩
end C29
