/- The document: sagas, what comes next. -/
import Derived.Test.YtjkcadbblgefdaaGreatDoorMd
import Derived.Test.YtjkcadbblgefdaaGreatDoorKi
import Derived.KernelRfl
open Go Go.AM Go.Proofs
namespace C29
theorem agg51:isAggA Tryz.prog 51=some true:=by kernel_rfl
theorem size51:(Tryz.prog.info? 51).map (·.size)=some 10:=by kernel_rfl
set_option maxHeartbeats 4000000 in
theorem rscheck_ok (h:Heap) (s:SagaM) (sa:Option Addr) (cp:Nat) (hl:LAt h stepc 2 s.d.xs (.slice sa s.d.xs.length cp)) (hlen:s.d.xs.length≤9223372036854775807) (hnm:s.d.name.size≤9223372036854775807) (hks:∀ x ∈ s.d.xs,x.key.size≤9223372036854775807):WCall Tryz.prog 64 #[(Value.agg #[(vS s.d.name),(vI (s.d.rt)),(vI (s.d.dl)),(Value.slice sa (s.d.xs.length) (cp)),(vI (s.st)),(vI (s.ix)),(vB s.cn),(vI (s.tr)),(vI (s.bg)),(vI (s.er))])] h (fun v h1=>v=.int .i64 (chkS s)∧Ext h h1):=by
 obtain ⟨b1,eb2⟩:∃ zq,zq=h.size:=⟨_,rfl⟩
 obtain ⟨h3,e4⟩:∃ zq,zq=h.push (.cells #[(vS s.d.name),(vI (s.d.rt)),(vI (s.d.dl)),(Value.slice sa (s.d.xs.length) (cp)),(vI (s.st)),(vI (s.ix)),(vB s.cn),(vI (s.tr)),(vI (s.bg)),(vI (s.er))] 51 (0,0)):=⟨_,rfl⟩
 have f5:=push_new e4
 rw [← eb2] at f5
 have x6:Ext h h3:=by rw [e4]; exact Ext.push _ _
 have o7:h.size≤b1:=by have:=(Ext.refl h).size; omega
 have x8:=(Ext.refl h).trans x6
 obtain ⟨_,hh9,sn10,rfl,x11⟩:=rdcheck_ok h3 s.d _ _ (hl.keep fun b r _ q=>x8 b r q) (by omega) hnm hks
 have f12:=x11 _ _ f5
 have x13:=x8.trans x11
 by_cases c14:((if defB s.d=true then 0 else 15):Int)=0
 ·obtain ⟨_,hh15,sn16,rfl,x17⟩:=rbcheck_ok hh9 s.tr s.bg
  have f18:=x17 _ _ f12
  have x19:=x13.trans x17
  by_cases c20:((if budB s.tr s.bg=true then 0 else 2):Int)=0
  ·by_cases c21:((s.st):Int) < 1
   ·exact hCall_ev [evA 0 0 eb2 e4,evL 1 1 0 agg31 size31 f5,evF 1 2 sn10,neF 1 3 34 c14,evL 3 1 7 agg49 size49 f12,evF 3 2 sn16,neF 3 3 34 c20,evC 3 6 4 agg3 f18,ltT 3 7 3 c21] [] (vI 2) hh15 ⟨by rw [chkS_int (ifz (by decide) c14) (okI_bad (by omega))],x19⟩
   ·by_cases c22:(5:Int) < (s.st)
    ·exact hCall_ev [evA 0 0 eb2 e4,evL 1 1 0 agg31 size31 f5,evF 1 2 sn10,neF 1 3 34 c14,evL 3 1 7 agg49 size49 f12,evF 3 2 sn16,neF 3 3 34 c20,evC 3 6 4 agg3 f18,ltF 3 7 3 c21,evC 3 11 4 agg3 f18,gtT 3 12 3 c22] [] (vI 2) hh15 ⟨by rw [chkS_int (ifz (by decide) c14) (okI_bad (by omega))],x19⟩
    ·by_cases c23:((s.st):Int)=4
     ·by_cases c24:((s.ix):Int) < 0
      ·exact hCall_ev [evA 0 0 eb2 e4,evL 1 1 0 agg31 size31 f5,evF 1 2 sn10,neF 1 3 34 c14,evL 3 1 7 agg49 size49 f12,evF 3 2 sn16,neF 3 3 34 c20,evC 3 6 4 agg3 f18,ltF 3 7 3 c21,evC 3 11 4 agg3 f18,gtF 3 12 3 c22,evC 5 2 3 agg29 f18,evV 5 4 (vI (((s.d.xs.length:Nat)) - 1)) (show binA Tryz.prog .sub 3 (vI ((s.d.xs.length:Nat))) (vI 1)=some (vI (((s.d.xs.length:Nat)) - 1)) from sub_i64 (by omega) (by omega)),evC 6 1 4 agg3 f18,eqT 6 2 3 c23,evC 8 1 5 agg3 f18,ltT 8 2 3 c24] [] (vI 2) hh15 ⟨by rw [chkS_int (ifz (by decide) c14) (okI_bad (by omega))],x19⟩
      ·by_cases c25:(0:Int) < (s.ix)
       ·exact hCall_ev [evA 0 0 eb2 e4,evL 1 1 0 agg31 size31 f5,evF 1 2 sn10,neF 1 3 34 c14,evL 3 1 7 agg49 size49 f12,evF 3 2 sn16,neF 3 3 34 c20,evC 3 6 4 agg3 f18,ltF 3 7 3 c21,evC 3 11 4 agg3 f18,gtF 3 12 3 c22,evC 5 2 3 agg29 f18,evV 5 4 (vI (((s.d.xs.length:Nat)) - 1)) (show binA Tryz.prog .sub 3 (vI ((s.d.xs.length:Nat))) (vI 1)=some (vI (((s.d.xs.length:Nat)) - 1)) from sub_i64 (by omega) (by omega)),evC 6 1 4 agg3 f18,eqT 6 2 3 c23,evC 8 1 5 agg3 f18,ltF 8 2 3 c24,evC 8 5 5 agg3 f18,gtT 8 7 3 c25] [] (vI 2) hh15 ⟨by rw [chkS_int (ifz (by decide) c14) (okI_bad (by omega))],x19⟩
       ·rcases Bool.eq_false_or_eq_true (s.cn) with c26 | c26
        ·have c27:¬ ((s.st):Int)=2:=by omega
         have cz:=cnI_true c26
         exact hCall_ev [evA 0 0 eb2 e4,evL 1 1 0 agg31 size31 f5,evF 1 2 sn10,neF 1 3 34 c14,evL 3 1 7 agg49 size49 f12,evF 3 2 sn16,neF 3 3 34 c20,evC 3 6 4 agg3 f18,ltF 3 7 3 c21,evC 3 11 4 agg3 f18,gtF 3 12 3 c22,evC 5 2 3 agg29 f18,evV 5 4 (vI (((s.d.xs.length:Nat)) - 1)) (show binA Tryz.prog .sub 3 (vI ((s.d.xs.length:Nat))) (vI 1)=some (vI (((s.d.xs.length:Nat)) - 1)) from sub_i64 (by omega) (by omega)),evC 6 1 4 agg3 f18,eqT 6 2 3 c23,evC 8 1 5 agg3 f18,ltF 8 2 3 c24,evC 8 5 5 agg3 f18,gtF 8 7 3 c25,evC 8 11 6 agg4 f18,evM 8 12 c26,evC 8 14 4 agg3 f18,eqF 8 15 3 c27,evC 8 18 4 agg3 f18,eqT 8 19 3 c23] [] (vI 2) hh15 ⟨by rw [chkS_int (ifz (by decide) c14) (okI_bad (by omega))],x19⟩
        ·have c28:¬ ((s.st):Int)=3:=by omega
         have c29:¬ ((s.st):Int)=5:=by omega
         by_cases c30:((s.er):Int)=0
         ·have cz:=cnI_false c26
          exact hCall_ev [evA 0 0 eb2 e4,evL 1 1 0 agg31 size31 f5,evF 1 2 sn10,neF 1 3 34 c14,evL 3 1 7 agg49 size49 f12,evF 3 2 sn16,neF 3 3 34 c20,evC 3 6 4 agg3 f18,ltF 3 7 3 c21,evC 3 11 4 agg3 f18,gtF 3 12 3 c22,evC 5 2 3 agg29 f18,evV 5 4 (vI (((s.d.xs.length:Nat)) - 1)) (show binA Tryz.prog .sub 3 (vI ((s.d.xs.length:Nat))) (vI 1)=some (vI (((s.d.xs.length:Nat)) - 1)) from sub_i64 (by omega) (by omega)),evC 6 1 4 agg3 f18,eqT 6 2 3 c23,evC 8 1 5 agg3 f18,ltF 8 2 3 c24,evC 8 5 5 agg3 f18,gtF 8 7 3 c25,evC 8 11 6 agg4 f18,evM 8 12 c26,evC 10 1 4 agg3 f18,eqF 10 2 3 c28,evC 10 5 4 agg3 f18,eqF 10 6 3 c29,evC 11 16 9 agg34 f18,neF 11 17 34 c30] [] (vI 0) hh15 ⟨by rw [chkS_ok (ifz (by decide) c14) (ifz (by decide) c20) (okI_ok (by omega))],x19⟩
         ·have cz:=cnI_false c26
          exact hCall_ev [evA 0 0 eb2 e4,evL 1 1 0 agg31 size31 f5,evF 1 2 sn10,neF 1 3 34 c14,evL 3 1 7 agg49 size49 f12,evF 3 2 sn16,neF 3 3 34 c20,evC 3 6 4 agg3 f18,ltF 3 7 3 c21,evC 3 11 4 agg3 f18,gtF 3 12 3 c22,evC 5 2 3 agg29 f18,evV 5 4 (vI (((s.d.xs.length:Nat)) - 1)) (show binA Tryz.prog .sub 3 (vI ((s.d.xs.length:Nat))) (vI 1)=some (vI (((s.d.xs.length:Nat)) - 1)) from sub_i64 (by omega) (by omega)),evC 6 1 4 agg3 f18,eqT 6 2 3 c23,evC 8 1 5 agg3 f18,ltF 8 2 3 c24,evC 8 5 5 agg3 f18,gtF 8 7 3 c25,evC 8 11 6 agg4 f18,evM 8 12 c26,evC 10 1 4 agg3 f18,eqF 10 2 3 c28,evC 10 5 4 agg3 f18,eqF 10 6 3 c29,evC 11 16 9 agg34 f18,neT 11 17 34 c30] [] (vI 2) hh15 ⟨by rw [chkS_int (ifz (by decide) c14) (okI_bad (by omega))],x19⟩
     ·by_cases c31:((s.st):Int)=5
      ·by_cases c32:((s.ix):Int) < 0
       ·exact hCall_ev [evA 0 0 eb2 e4,evL 1 1 0 agg31 size31 f5,evF 1 2 sn10,neF 1 3 34 c14,evL 3 1 7 agg49 size49 f12,evF 3 2 sn16,neF 3 3 34 c20,evC 3 6 4 agg3 f18,ltF 3 7 3 c21,evC 3 11 4 agg3 f18,gtF 3 12 3 c22,evC 5 2 3 agg29 f18,evV 5 4 (vI (((s.d.xs.length:Nat)) - 1)) (show binA Tryz.prog .sub 3 (vI ((s.d.xs.length:Nat))) (vI 1)=some (vI (((s.d.xs.length:Nat)) - 1)) from sub_i64 (by omega) (by omega)),evC 6 1 4 agg3 f18,eqF 6 2 3 c23,evC 6 5 4 agg3 f18,eqT 6 6 3 c31,evC 8 1 5 agg3 f18,ltT 8 2 3 c32] [] (vI 2) hh15 ⟨by rw [chkS_int (ifz (by decide) c14) (okI_bad (by omega))],x19⟩
       ·by_cases c33:(0:Int) < (s.ix)
        ·exact hCall_ev [evA 0 0 eb2 e4,evL 1 1 0 agg31 size31 f5,evF 1 2 sn10,neF 1 3 34 c14,evL 3 1 7 agg49 size49 f12,evF 3 2 sn16,neF 3 3 34 c20,evC 3 6 4 agg3 f18,ltF 3 7 3 c21,evC 3 11 4 agg3 f18,gtF 3 12 3 c22,evC 5 2 3 agg29 f18,evV 5 4 (vI (((s.d.xs.length:Nat)) - 1)) (show binA Tryz.prog .sub 3 (vI ((s.d.xs.length:Nat))) (vI 1)=some (vI (((s.d.xs.length:Nat)) - 1)) from sub_i64 (by omega) (by omega)),evC 6 1 4 agg3 f18,eqF 6 2 3 c23,evC 6 5 4 agg3 f18,eqT 6 6 3 c31,evC 8 1 5 agg3 f18,ltF 8 2 3 c32,evC 8 5 5 agg3 f18,gtT 8 7 3 c33] [] (vI 2) hh15 ⟨by rw [chkS_int (ifz (by decide) c14) (okI_bad (by omega))],x19⟩
        ·rcases Bool.eq_false_or_eq_true (s.cn) with c34 | c34
         ·have c35:¬ ((s.st):Int)=2:=by omega
          have c36:¬ ((s.st):Int)=3:=by omega
          by_cases c37:((s.er):Int) < 1
          ·have cz:=cnI_true c34
           exact hCall_ev [evA 0 0 eb2 e4,evL 1 1 0 agg31 size31 f5,evF 1 2 sn10,neF 1 3 34 c14,evL 3 1 7 agg49 size49 f12,evF 3 2 sn16,neF 3 3 34 c20,evC 3 6 4 agg3 f18,ltF 3 7 3 c21,evC 3 11 4 agg3 f18,gtF 3 12 3 c22,evC 5 2 3 agg29 f18,evV 5 4 (vI (((s.d.xs.length:Nat)) - 1)) (show binA Tryz.prog .sub 3 (vI ((s.d.xs.length:Nat))) (vI 1)=some (vI (((s.d.xs.length:Nat)) - 1)) from sub_i64 (by omega) (by omega)),evC 6 1 4 agg3 f18,eqF 6 2 3 c23,evC 6 5 4 agg3 f18,eqT 6 6 3 c31,evC 8 1 5 agg3 f18,ltF 8 2 3 c32,evC 8 5 5 agg3 f18,gtF 8 7 3 c33,evC 8 11 6 agg4 f18,evM 8 12 c34,evC 8 14 4 agg3 f18,eqF 8 15 3 c35,evC 8 18 4 agg3 f18,eqF 8 19 3 c23,evC 10 1 4 agg3 f18,eqF 10 2 3 c36,evC 10 5 4 agg3 f18,eqT 10 6 3 c31,evC 11 3 9 agg34 f18,ltT 11 4 34 c37] [] (vI 2) hh15 ⟨by rw [chkS_int (ifz (by decide) c14) (okI_bad (by omega))],x19⟩
          ·by_cases c38:(18:Int) < (s.er)
           ·have cz:=cnI_true c34
            exact hCall_ev [evA 0 0 eb2 e4,evL 1 1 0 agg31 size31 f5,evF 1 2 sn10,neF 1 3 34 c14,evL 3 1 7 agg49 size49 f12,evF 3 2 sn16,neF 3 3 34 c20,evC 3 6 4 agg3 f18,ltF 3 7 3 c21,evC 3 11 4 agg3 f18,gtF 3 12 3 c22,evC 5 2 3 agg29 f18,evV 5 4 (vI (((s.d.xs.length:Nat)) - 1)) (show binA Tryz.prog .sub 3 (vI ((s.d.xs.length:Nat))) (vI 1)=some (vI (((s.d.xs.length:Nat)) - 1)) from sub_i64 (by omega) (by omega)),evC 6 1 4 agg3 f18,eqF 6 2 3 c23,evC 6 5 4 agg3 f18,eqT 6 6 3 c31,evC 8 1 5 agg3 f18,ltF 8 2 3 c32,evC 8 5 5 agg3 f18,gtF 8 7 3 c33,evC 8 11 6 agg4 f18,evM 8 12 c34,evC 8 14 4 agg3 f18,eqF 8 15 3 c35,evC 8 18 4 agg3 f18,eqF 8 19 3 c23,evC 10 1 4 agg3 f18,eqF 10 2 3 c36,evC 10 5 4 agg3 f18,eqT 10 6 3 c31,evC 11 3 9 agg34 f18,ltF 11 4 34 c37,evC 11 7 9 agg34 f18,gtT 11 8 34 c38] [] (vI 2) hh15 ⟨by rw [chkS_int (ifz (by decide) c14) (okI_bad (by omega))],x19⟩
           ·have cz:=cnI_true c34
            exact hCall_ev [evA 0 0 eb2 e4,evL 1 1 0 agg31 size31 f5,evF 1 2 sn10,neF 1 3 34 c14,evL 3 1 7 agg49 size49 f12,evF 3 2 sn16,neF 3 3 34 c20,evC 3 6 4 agg3 f18,ltF 3 7 3 c21,evC 3 11 4 agg3 f18,gtF 3 12 3 c22,evC 5 2 3 agg29 f18,evV 5 4 (vI (((s.d.xs.length:Nat)) - 1)) (show binA Tryz.prog .sub 3 (vI ((s.d.xs.length:Nat))) (vI 1)=some (vI (((s.d.xs.length:Nat)) - 1)) from sub_i64 (by omega) (by omega)),evC 6 1 4 agg3 f18,eqF 6 2 3 c23,evC 6 5 4 agg3 f18,eqT 6 6 3 c31,evC 8 1 5 agg3 f18,ltF 8 2 3 c32,evC 8 5 5 agg3 f18,gtF 8 7 3 c33,evC 8 11 6 agg4 f18,evM 8 12 c34,evC 8 14 4 agg3 f18,eqF 8 15 3 c35,evC 8 18 4 agg3 f18,eqF 8 19 3 c23,evC 10 1 4 agg3 f18,eqF 10 2 3 c36,evC 10 5 4 agg3 f18,eqT 10 6 3 c31,evC 11 3 9 agg34 f18,ltF 11 4 34 c37,evC 11 7 9 agg34 f18,gtF 11 8 34 c38] [] (vI 0) hh15 ⟨by rw [chkS_ok (ifz (by decide) c14) (ifz (by decide) c20) (okI_ok (by omega))],x19⟩
         ·have c39:¬ ((s.st):Int)=3:=by omega
          by_cases c40:((s.er):Int) < 1
          ·have cz:=cnI_false c34
           exact hCall_ev [evA 0 0 eb2 e4,evL 1 1 0 agg31 size31 f5,evF 1 2 sn10,neF 1 3 34 c14,evL 3 1 7 agg49 size49 f12,evF 3 2 sn16,neF 3 3 34 c20,evC 3 6 4 agg3 f18,ltF 3 7 3 c21,evC 3 11 4 agg3 f18,gtF 3 12 3 c22,evC 5 2 3 agg29 f18,evV 5 4 (vI (((s.d.xs.length:Nat)) - 1)) (show binA Tryz.prog .sub 3 (vI ((s.d.xs.length:Nat))) (vI 1)=some (vI (((s.d.xs.length:Nat)) - 1)) from sub_i64 (by omega) (by omega)),evC 6 1 4 agg3 f18,eqF 6 2 3 c23,evC 6 5 4 agg3 f18,eqT 6 6 3 c31,evC 8 1 5 agg3 f18,ltF 8 2 3 c32,evC 8 5 5 agg3 f18,gtF 8 7 3 c33,evC 8 11 6 agg4 f18,evM 8 12 c34,evC 10 1 4 agg3 f18,eqF 10 2 3 c39,evC 10 5 4 agg3 f18,eqT 10 6 3 c31,evC 11 3 9 agg34 f18,ltT 11 4 34 c40] [] (vI 2) hh15 ⟨by rw [chkS_int (ifz (by decide) c14) (okI_bad (by omega))],x19⟩
          ·by_cases c41:(18:Int) < (s.er)
           ·have cz:=cnI_false c34
            exact hCall_ev [evA 0 0 eb2 e4,evL 1 1 0 agg31 size31 f5,evF 1 2 sn10,neF 1 3 34 c14,evL 3 1 7 agg49 size49 f12,evF 3 2 sn16,neF 3 3 34 c20,evC 3 6 4 agg3 f18,ltF 3 7 3 c21,evC 3 11 4 agg3 f18,gtF 3 12 3 c22,evC 5 2 3 agg29 f18,evV 5 4 (vI (((s.d.xs.length:Nat)) - 1)) (show binA Tryz.prog .sub 3 (vI ((s.d.xs.length:Nat))) (vI 1)=some (vI (((s.d.xs.length:Nat)) - 1)) from sub_i64 (by omega) (by omega)),evC 6 1 4 agg3 f18,eqF 6 2 3 c23,evC 6 5 4 agg3 f18,eqT 6 6 3 c31,evC 8 1 5 agg3 f18,ltF 8 2 3 c32,evC 8 5 5 agg3 f18,gtF 8 7 3 c33,evC 8 11 6 agg4 f18,evM 8 12 c34,evC 10 1 4 agg3 f18,eqF 10 2 3 c39,evC 10 5 4 agg3 f18,eqT 10 6 3 c31,evC 11 3 9 agg34 f18,ltF 11 4 34 c40,evC 11 7 9 agg34 f18,gtT 11 8 34 c41] [] (vI 2) hh15 ⟨by rw [chkS_int (ifz (by decide) c14) (okI_bad (by omega))],x19⟩
           ·have cz:=cnI_false c34
            exact hCall_ev [evA 0 0 eb2 e4,evL 1 1 0 agg31 size31 f5,evF 1 2 sn10,neF 1 3 34 c14,evL 3 1 7 agg49 size49 f12,evF 3 2 sn16,neF 3 3 34 c20,evC 3 6 4 agg3 f18,ltF 3 7 3 c21,evC 3 11 4 agg3 f18,gtF 3 12 3 c22,evC 5 2 3 agg29 f18,evV 5 4 (vI (((s.d.xs.length:Nat)) - 1)) (show binA Tryz.prog .sub 3 (vI ((s.d.xs.length:Nat))) (vI 1)=some (vI (((s.d.xs.length:Nat)) - 1)) from sub_i64 (by omega) (by omega)),evC 6 1 4 agg3 f18,eqF 6 2 3 c23,evC 6 5 4 agg3 f18,eqT 6 6 3 c31,evC 8 1 5 agg3 f18,ltF 8 2 3 c32,evC 8 5 5 agg3 f18,gtF 8 7 3 c33,evC 8 11 6 agg4 f18,evM 8 12 c34,evC 10 1 4 agg3 f18,eqF 10 2 3 c39,evC 10 5 4 agg3 f18,eqT 10 6 3 c31,evC 11 3 9 agg34 f18,ltF 11 4 34 c40,evC 11 7 9 agg34 f18,gtF 11 8 34 c41] [] (vI 0) hh15 ⟨by rw [chkS_ok (ifz (by decide) c14) (ifz (by decide) c20) (okI_ok (by omega))],x19⟩
      ·by_cases c42:((s.ix):Int) < 0
       ·exact hCall_ev [evA 0 0 eb2 e4,evL 1 1 0 agg31 size31 f5,evF 1 2 sn10,neF 1 3 34 c14,evL 3 1 7 agg49 size49 f12,evF 3 2 sn16,neF 3 3 34 c20,evC 3 6 4 agg3 f18,ltF 3 7 3 c21,evC 3 11 4 agg3 f18,gtF 3 12 3 c22,evC 5 2 3 agg29 f18,evV 5 4 (vI (((s.d.xs.length:Nat)) - 1)) (show binA Tryz.prog .sub 3 (vI ((s.d.xs.length:Nat))) (vI 1)=some (vI (((s.d.xs.length:Nat)) - 1)) from sub_i64 (by omega) (by omega)),evC 6 1 4 agg3 f18,eqF 6 2 3 c23,evC 6 5 4 agg3 f18,eqF 6 6 3 c31,evC 8 1 5 agg3 f18,ltT 8 2 3 c42] [] (vI 2) hh15 ⟨by rw [chkS_int (ifz (by decide) c14) (okI_bad (by omega))],x19⟩
       ·by_cases c43:((((s.d.xs.length:Nat)) - 1):Int) < (s.ix)
        ·exact hCall_ev [evA 0 0 eb2 e4,evL 1 1 0 agg31 size31 f5,evF 1 2 sn10,neF 1 3 34 c14,evL 3 1 7 agg49 size49 f12,evF 3 2 sn16,neF 3 3 34 c20,evC 3 6 4 agg3 f18,ltF 3 7 3 c21,evC 3 11 4 agg3 f18,gtF 3 12 3 c22,evC 5 2 3 agg29 f18,evV 5 4 (vI (((s.d.xs.length:Nat)) - 1)) (show binA Tryz.prog .sub 3 (vI ((s.d.xs.length:Nat))) (vI 1)=some (vI (((s.d.xs.length:Nat)) - 1)) from sub_i64 (by omega) (by omega)),evC 6 1 4 agg3 f18,eqF 6 2 3 c23,evC 6 5 4 agg3 f18,eqF 6 6 3 c31,evC 8 1 5 agg3 f18,ltF 8 2 3 c42,evC 8 5 5 agg3 f18,gtT 8 7 3 c43] [] (vI 2) hh15 ⟨by rw [chkS_int (ifz (by decide) c14) (okI_bad (by omega))],x19⟩
        ·rcases Bool.eq_false_or_eq_true (s.cn) with c44 | c44
         ·by_cases c45:((s.st):Int)=2
          ·have cz:=cnI_true c44
           exact hCall_ev [evA 0 0 eb2 e4,evL 1 1 0 agg31 size31 f5,evF 1 2 sn10,neF 1 3 34 c14,evL 3 1 7 agg49 size49 f12,evF 3 2 sn16,neF 3 3 34 c20,evC 3 6 4 agg3 f18,ltF 3 7 3 c21,evC 3 11 4 agg3 f18,gtF 3 12 3 c22,evC 5 2 3 agg29 f18,evV 5 4 (vI (((s.d.xs.length:Nat)) - 1)) (show binA Tryz.prog .sub 3 (vI ((s.d.xs.length:Nat))) (vI 1)=some (vI (((s.d.xs.length:Nat)) - 1)) from sub_i64 (by omega) (by omega)),evC 6 1 4 agg3 f18,eqF 6 2 3 c23,evC 6 5 4 agg3 f18,eqF 6 6 3 c31,evC 8 1 5 agg3 f18,ltF 8 2 3 c42,evC 8 5 5 agg3 f18,gtF 8 7 3 c43,evC 8 11 6 agg4 f18,evM 8 12 c44,evC 8 14 4 agg3 f18,eqT 8 15 3 c45] [] (vI 2) hh15 ⟨by rw [chkS_int (ifz (by decide) c14) (okI_bad (by omega))],x19⟩
          ·by_cases c46:((s.st):Int)=3
           ·by_cases c47:((s.er):Int) < 1
            ·have cz:=cnI_true c44
             exact hCall_ev [evA 0 0 eb2 e4,evL 1 1 0 agg31 size31 f5,evF 1 2 sn10,neF 1 3 34 c14,evL 3 1 7 agg49 size49 f12,evF 3 2 sn16,neF 3 3 34 c20,evC 3 6 4 agg3 f18,ltF 3 7 3 c21,evC 3 11 4 agg3 f18,gtF 3 12 3 c22,evC 5 2 3 agg29 f18,evV 5 4 (vI (((s.d.xs.length:Nat)) - 1)) (show binA Tryz.prog .sub 3 (vI ((s.d.xs.length:Nat))) (vI 1)=some (vI (((s.d.xs.length:Nat)) - 1)) from sub_i64 (by omega) (by omega)),evC 6 1 4 agg3 f18,eqF 6 2 3 c23,evC 6 5 4 agg3 f18,eqF 6 6 3 c31,evC 8 1 5 agg3 f18,ltF 8 2 3 c42,evC 8 5 5 agg3 f18,gtF 8 7 3 c43,evC 8 11 6 agg4 f18,evM 8 12 c44,evC 8 14 4 agg3 f18,eqF 8 15 3 c45,evC 8 18 4 agg3 f18,eqF 8 19 3 c23,evC 10 1 4 agg3 f18,eqT 10 2 3 c46,evC 11 3 9 agg34 f18,ltT 11 4 34 c47] [] (vI 2) hh15 ⟨by rw [chkS_int (ifz (by decide) c14) (okI_bad (by omega))],x19⟩
            ·by_cases c48:(18:Int) < (s.er)
             ·have cz:=cnI_true c44
              exact hCall_ev [evA 0 0 eb2 e4,evL 1 1 0 agg31 size31 f5,evF 1 2 sn10,neF 1 3 34 c14,evL 3 1 7 agg49 size49 f12,evF 3 2 sn16,neF 3 3 34 c20,evC 3 6 4 agg3 f18,ltF 3 7 3 c21,evC 3 11 4 agg3 f18,gtF 3 12 3 c22,evC 5 2 3 agg29 f18,evV 5 4 (vI (((s.d.xs.length:Nat)) - 1)) (show binA Tryz.prog .sub 3 (vI ((s.d.xs.length:Nat))) (vI 1)=some (vI (((s.d.xs.length:Nat)) - 1)) from sub_i64 (by omega) (by omega)),evC 6 1 4 agg3 f18,eqF 6 2 3 c23,evC 6 5 4 agg3 f18,eqF 6 6 3 c31,evC 8 1 5 agg3 f18,ltF 8 2 3 c42,evC 8 5 5 agg3 f18,gtF 8 7 3 c43,evC 8 11 6 agg4 f18,evM 8 12 c44,evC 8 14 4 agg3 f18,eqF 8 15 3 c45,evC 8 18 4 agg3 f18,eqF 8 19 3 c23,evC 10 1 4 agg3 f18,eqT 10 2 3 c46,evC 11 3 9 agg34 f18,ltF 11 4 34 c47,evC 11 7 9 agg34 f18,gtT 11 8 34 c48] [] (vI 2) hh15 ⟨by rw [chkS_int (ifz (by decide) c14) (okI_bad (by omega))],x19⟩
             ·have cz:=cnI_true c44
              exact hCall_ev [evA 0 0 eb2 e4,evL 1 1 0 agg31 size31 f5,evF 1 2 sn10,neF 1 3 34 c14,evL 3 1 7 agg49 size49 f12,evF 3 2 sn16,neF 3 3 34 c20,evC 3 6 4 agg3 f18,ltF 3 7 3 c21,evC 3 11 4 agg3 f18,gtF 3 12 3 c22,evC 5 2 3 agg29 f18,evV 5 4 (vI (((s.d.xs.length:Nat)) - 1)) (show binA Tryz.prog .sub 3 (vI ((s.d.xs.length:Nat))) (vI 1)=some (vI (((s.d.xs.length:Nat)) - 1)) from sub_i64 (by omega) (by omega)),evC 6 1 4 agg3 f18,eqF 6 2 3 c23,evC 6 5 4 agg3 f18,eqF 6 6 3 c31,evC 8 1 5 agg3 f18,ltF 8 2 3 c42,evC 8 5 5 agg3 f18,gtF 8 7 3 c43,evC 8 11 6 agg4 f18,evM 8 12 c44,evC 8 14 4 agg3 f18,eqF 8 15 3 c45,evC 8 18 4 agg3 f18,eqF 8 19 3 c23,evC 10 1 4 agg3 f18,eqT 10 2 3 c46,evC 11 3 9 agg34 f18,ltF 11 4 34 c47,evC 11 7 9 agg34 f18,gtF 11 8 34 c48] [] (vI 0) hh15 ⟨by rw [chkS_ok (ifz (by decide) c14) (ifz (by decide) c20) (okI_ok (by omega))],x19⟩
           ·by_cases c49:((s.er):Int)=0
            ·have cz:=cnI_true c44
             exact hCall_ev [evA 0 0 eb2 e4,evL 1 1 0 agg31 size31 f5,evF 1 2 sn10,neF 1 3 34 c14,evL 3 1 7 agg49 size49 f12,evF 3 2 sn16,neF 3 3 34 c20,evC 3 6 4 agg3 f18,ltF 3 7 3 c21,evC 3 11 4 agg3 f18,gtF 3 12 3 c22,evC 5 2 3 agg29 f18,evV 5 4 (vI (((s.d.xs.length:Nat)) - 1)) (show binA Tryz.prog .sub 3 (vI ((s.d.xs.length:Nat))) (vI 1)=some (vI (((s.d.xs.length:Nat)) - 1)) from sub_i64 (by omega) (by omega)),evC 6 1 4 agg3 f18,eqF 6 2 3 c23,evC 6 5 4 agg3 f18,eqF 6 6 3 c31,evC 8 1 5 agg3 f18,ltF 8 2 3 c42,evC 8 5 5 agg3 f18,gtF 8 7 3 c43,evC 8 11 6 agg4 f18,evM 8 12 c44,evC 8 14 4 agg3 f18,eqF 8 15 3 c45,evC 8 18 4 agg3 f18,eqF 8 19 3 c23,evC 10 1 4 agg3 f18,eqF 10 2 3 c46,evC 10 5 4 agg3 f18,eqF 10 6 3 c31,evC 11 16 9 agg34 f18,neF 11 17 34 c49] [] (vI 0) hh15 ⟨by rw [chkS_ok (ifz (by decide) c14) (ifz (by decide) c20) (okI_ok (by omega))],x19⟩
            ·have cz:=cnI_true c44
             exact hCall_ev [evA 0 0 eb2 e4,evL 1 1 0 agg31 size31 f5,evF 1 2 sn10,neF 1 3 34 c14,evL 3 1 7 agg49 size49 f12,evF 3 2 sn16,neF 3 3 34 c20,evC 3 6 4 agg3 f18,ltF 3 7 3 c21,evC 3 11 4 agg3 f18,gtF 3 12 3 c22,evC 5 2 3 agg29 f18,evV 5 4 (vI (((s.d.xs.length:Nat)) - 1)) (show binA Tryz.prog .sub 3 (vI ((s.d.xs.length:Nat))) (vI 1)=some (vI (((s.d.xs.length:Nat)) - 1)) from sub_i64 (by omega) (by omega)),evC 6 1 4 agg3 f18,eqF 6 2 3 c23,evC 6 5 4 agg3 f18,eqF 6 6 3 c31,evC 8 1 5 agg3 f18,ltF 8 2 3 c42,evC 8 5 5 agg3 f18,gtF 8 7 3 c43,evC 8 11 6 agg4 f18,evM 8 12 c44,evC 8 14 4 agg3 f18,eqF 8 15 3 c45,evC 8 18 4 agg3 f18,eqF 8 19 3 c23,evC 10 1 4 agg3 f18,eqF 10 2 3 c46,evC 10 5 4 agg3 f18,eqF 10 6 3 c31,evC 11 16 9 agg34 f18,neT 11 17 34 c49] [] (vI 2) hh15 ⟨by rw [chkS_int (ifz (by decide) c14) (okI_bad (by omega))],x19⟩
         ·by_cases c50:((s.st):Int)=3
          ·by_cases c51:((s.er):Int) < 1
           ·have cz:=cnI_false c44
            exact hCall_ev [evA 0 0 eb2 e4,evL 1 1 0 agg31 size31 f5,evF 1 2 sn10,neF 1 3 34 c14,evL 3 1 7 agg49 size49 f12,evF 3 2 sn16,neF 3 3 34 c20,evC 3 6 4 agg3 f18,ltF 3 7 3 c21,evC 3 11 4 agg3 f18,gtF 3 12 3 c22,evC 5 2 3 agg29 f18,evV 5 4 (vI (((s.d.xs.length:Nat)) - 1)) (show binA Tryz.prog .sub 3 (vI ((s.d.xs.length:Nat))) (vI 1)=some (vI (((s.d.xs.length:Nat)) - 1)) from sub_i64 (by omega) (by omega)),evC 6 1 4 agg3 f18,eqF 6 2 3 c23,evC 6 5 4 agg3 f18,eqF 6 6 3 c31,evC 8 1 5 agg3 f18,ltF 8 2 3 c42,evC 8 5 5 agg3 f18,gtF 8 7 3 c43,evC 8 11 6 agg4 f18,evM 8 12 c44,evC 10 1 4 agg3 f18,eqT 10 2 3 c50,evC 11 3 9 agg34 f18,ltT 11 4 34 c51] [] (vI 2) hh15 ⟨by rw [chkS_int (ifz (by decide) c14) (okI_bad (by omega))],x19⟩
           ·by_cases c52:(18:Int) < (s.er)
            ·have cz:=cnI_false c44
             exact hCall_ev [evA 0 0 eb2 e4,evL 1 1 0 agg31 size31 f5,evF 1 2 sn10,neF 1 3 34 c14,evL 3 1 7 agg49 size49 f12,evF 3 2 sn16,neF 3 3 34 c20,evC 3 6 4 agg3 f18,ltF 3 7 3 c21,evC 3 11 4 agg3 f18,gtF 3 12 3 c22,evC 5 2 3 agg29 f18,evV 5 4 (vI (((s.d.xs.length:Nat)) - 1)) (show binA Tryz.prog .sub 3 (vI ((s.d.xs.length:Nat))) (vI 1)=some (vI (((s.d.xs.length:Nat)) - 1)) from sub_i64 (by omega) (by omega)),evC 6 1 4 agg3 f18,eqF 6 2 3 c23,evC 6 5 4 agg3 f18,eqF 6 6 3 c31,evC 8 1 5 agg3 f18,ltF 8 2 3 c42,evC 8 5 5 agg3 f18,gtF 8 7 3 c43,evC 8 11 6 agg4 f18,evM 8 12 c44,evC 10 1 4 agg3 f18,eqT 10 2 3 c50,evC 11 3 9 agg34 f18,ltF 11 4 34 c51,evC 11 7 9 agg34 f18,gtT 11 8 34 c52] [] (vI 2) hh15 ⟨by rw [chkS_int (ifz (by decide) c14) (okI_bad (by omega))],x19⟩
            ·have cz:=cnI_false c44
             exact hCall_ev [evA 0 0 eb2 e4,evL 1 1 0 agg31 size31 f5,evF 1 2 sn10,neF 1 3 34 c14,evL 3 1 7 agg49 size49 f12,evF 3 2 sn16,neF 3 3 34 c20,evC 3 6 4 agg3 f18,ltF 3 7 3 c21,evC 3 11 4 agg3 f18,gtF 3 12 3 c22,evC 5 2 3 agg29 f18,evV 5 4 (vI (((s.d.xs.length:Nat)) - 1)) (show binA Tryz.prog .sub 3 (vI ((s.d.xs.length:Nat))) (vI 1)=some (vI (((s.d.xs.length:Nat)) - 1)) from sub_i64 (by omega) (by omega)),evC 6 1 4 agg3 f18,eqF 6 2 3 c23,evC 6 5 4 agg3 f18,eqF 6 6 3 c31,evC 8 1 5 agg3 f18,ltF 8 2 3 c42,evC 8 5 5 agg3 f18,gtF 8 7 3 c43,evC 8 11 6 agg4 f18,evM 8 12 c44,evC 10 1 4 agg3 f18,eqT 10 2 3 c50,evC 11 3 9 agg34 f18,ltF 11 4 34 c51,evC 11 7 9 agg34 f18,gtF 11 8 34 c52] [] (vI 0) hh15 ⟨by rw [chkS_ok (ifz (by decide) c14) (ifz (by decide) c20) (okI_ok (by omega))],x19⟩
          ·by_cases c53:((s.er):Int)=0
           ·have cz:=cnI_false c44
            exact hCall_ev [evA 0 0 eb2 e4,evL 1 1 0 agg31 size31 f5,evF 1 2 sn10,neF 1 3 34 c14,evL 3 1 7 agg49 size49 f12,evF 3 2 sn16,neF 3 3 34 c20,evC 3 6 4 agg3 f18,ltF 3 7 3 c21,evC 3 11 4 agg3 f18,gtF 3 12 3 c22,evC 5 2 3 agg29 f18,evV 5 4 (vI (((s.d.xs.length:Nat)) - 1)) (show binA Tryz.prog .sub 3 (vI ((s.d.xs.length:Nat))) (vI 1)=some (vI (((s.d.xs.length:Nat)) - 1)) from sub_i64 (by omega) (by omega)),evC 6 1 4 agg3 f18,eqF 6 2 3 c23,evC 6 5 4 agg3 f18,eqF 6 6 3 c31,evC 8 1 5 agg3 f18,ltF 8 2 3 c42,evC 8 5 5 agg3 f18,gtF 8 7 3 c43,evC 8 11 6 agg4 f18,evM 8 12 c44,evC 10 1 4 agg3 f18,eqF 10 2 3 c50,evC 10 5 4 agg3 f18,eqF 10 6 3 c31,evC 11 16 9 agg34 f18,neF 11 17 34 c53] [] (vI 0) hh15 ⟨by rw [chkS_ok (ifz (by decide) c14) (ifz (by decide) c20) (okI_ok (by omega))],x19⟩
           ·have cz:=cnI_false c44
            exact hCall_ev [evA 0 0 eb2 e4,evL 1 1 0 agg31 size31 f5,evF 1 2 sn10,neF 1 3 34 c14,evL 3 1 7 agg49 size49 f12,evF 3 2 sn16,neF 3 3 34 c20,evC 3 6 4 agg3 f18,ltF 3 7 3 c21,evC 3 11 4 agg3 f18,gtF 3 12 3 c22,evC 5 2 3 agg29 f18,evV 5 4 (vI (((s.d.xs.length:Nat)) - 1)) (show binA Tryz.prog .sub 3 (vI ((s.d.xs.length:Nat))) (vI 1)=some (vI (((s.d.xs.length:Nat)) - 1)) from sub_i64 (by omega) (by omega)),evC 6 1 4 agg3 f18,eqF 6 2 3 c23,evC 6 5 4 agg3 f18,eqF 6 6 3 c31,evC 8 1 5 agg3 f18,ltF 8 2 3 c42,evC 8 5 5 agg3 f18,gtF 8 7 3 c43,evC 8 11 6 agg4 f18,evM 8 12 c44,evC 10 1 4 agg3 f18,eqF 10 2 3 c50,evC 10 5 4 agg3 f18,eqF 10 6 3 c31,evC 11 16 9 agg34 f18,neT 11 17 34 c53] [] (vI 2) hh15 ⟨by rw [chkS_int (ifz (by decide) c14) (okI_bad (by omega))],x19⟩
  ·exact hCall_ev [evA 0 0 eb2 e4,evL 1 1 0 agg31 size31 f5,evF 1 2 sn10,neF 1 3 34 c14,evL 3 1 7 agg49 size49 f12,evF 3 2 sn16,neT 3 3 34 c20] [] (vI 2) hh15 ⟨by rw [chkS_bud (ifz (by decide) c14) (Bool.eq_false_iff.2 (fun w=>c20 (by rw [if_pos w])))],x19⟩
 ·exact hCall_ev [evA 0 0 eb2 e4,evL 1 1 0 agg31 size31 f5,evF 1 2 sn10,neT 1 3 34 c14] [] (vI 15) hh9 ⟨by rw [chkS_def (Bool.eq_false_iff.2 (fun w=>c14 (by rw [if_pos w])))],x13⟩
/-- What skaldref28.Ended gives. -/
def endV (s:SagaM):Bool × Int:=if ((chkS s):Int)=0 then (if ((s.st):Int)=4 then (true,0) else (if ((s.st):Int)=5 then (true,0) else (false,0))) else (false,(chkS s))
set_option maxHeartbeats 4000000 in
theorem endV_ok (h:Heap) (s:SagaM) (sa:Option Addr) (cp:Nat) (hl:LAt h stepc 2 s.d.xs (.slice sa s.d.xs.length cp)) (hlen:s.d.xs.length≤9223372036854775807) (hnm:s.d.name.size≤9223372036854775807) (hks:∀ x ∈ s.d.xs,x.key.size≤9223372036854775807):WCall Tryz.prog 93 #[(Value.agg #[(vS s.d.name),(vI (s.d.rt)),(vI (s.d.dl)),(Value.slice sa (s.d.xs.length) (cp)),(vI (s.st)),(vI (s.ix)),(vB s.cn),(vI (s.tr)),(vI (s.bg)),(vI (s.er))])] h (fun v h1=>v=(Value.tuple #[(vB (endV s).1),(vI ((endV s).2))])∧Ext h h1):=by
 obtain ⟨b1,eb2⟩:∃ zq,zq=h.size:=⟨_,rfl⟩
 obtain ⟨h3,e4⟩:∃ zq,zq=h.push (.cells #[(vS s.d.name),(vI (s.d.rt)),(vI (s.d.dl)),(Value.slice sa (s.d.xs.length) (cp)),(vI (s.st)),(vI (s.ix)),(vB s.cn),(vI (s.tr)),(vI (s.bg)),(vI (s.er))] 51 (0,0)):=⟨_,rfl⟩
 have f5:=push_new e4
 rw [← eb2] at f5
 have x6:Ext h h3:=by rw [e4]; exact Ext.push _ _
 have o7:h.size≤b1:=by have:=(Ext.refl h).size; omega
 have x8:=(Ext.refl h).trans x6
 obtain ⟨_,h9,s10,rfl,x11⟩:=rscheck_ok h3 s _ _ (hl.keep fun b r _ q=>x8 b r q) (by omega) hnm hks
 have f12:=x11 _ _ f5
 have x13:=x8.trans x11
 by_cases c14:((chkS s):Int)=0
 ·obtain ⟨z2522d,z2522b,z2522o⟩:=chkS_zero c14
  have:=defB_of z2522d
  have:=budB_of z2522b
  have z2522i:=okI_of z2522o
  have:=z2522i.1
  by_cases c15:((s.st):Int)=4
  ·have e16:(endV s)=(true,0):=by unfold endV; rw [if_pos c14,if_pos c15]
   exact hCall_ev [evA 0 0 eb2 e4,evLw 1 0 agg51 size51 f5,evFi 1 1 c14 s10,evC 4 1 4 agg3 f12,eqT 4 2 3 c15] [] (vT #[(vB true),(vI 0)]) h9 ⟨by rw [e16],x13⟩
  ·by_cases c17:((s.st):Int)=5
   ·have e18:(endV s)=(true,0):=by unfold endV; rw [if_pos c14,if_neg c15,if_pos c17]
    exact hCall_ev [evA 0 0 eb2 e4,evLw 1 0 agg51 size51 f5,evFi 1 1 c14 s10,evC 4 1 4 agg3 f12,eqF 4 2 3 c15,evC 4 5 4 agg3 f12,eqT 4 6 3 c17] [] (vT #[(vB true),(vI 0)]) h9 ⟨by rw [e18],x13⟩
   ·have e19:(endV s)=(false,0):=by unfold endV; rw [if_pos c14,if_neg c15,if_neg c17]
    exact hCall_ev [evA 0 0 eb2 e4,evLw 1 0 agg51 size51 f5,evFi 1 1 c14 s10,evC 4 1 4 agg3 f12,eqF 4 2 3 c15,evC 4 5 4 agg3 f12,eqF 4 6 3 c17] [] (vT #[(vB false),(vI 0)]) h9 ⟨by rw [e19],x13⟩
 ·have e20:(endV s)=(false,(chkS s)):=by unfold endV; rw [if_neg c14]
  exact hCall_ev [evA 0 0 eb2 e4,evLw 1 0 agg51 size51 f5,evF 1 1 s10,neT 2 1 34 c14] [] (vT #[(vB false),(vI (chkS s))]) h9 ⟨by rw [e20],x13⟩
theorem endV_open {s:SagaM} (h:chkS s=0) (h4:s.st < 4):endV s=(false,0):=by unfold endV; rw [if_pos h,if_neg (by omega),if_neg (by omega)]
theorem endV_done {s:SagaM} (h:chkS s=0) (h4:¬ s.st < 4):endV s=(true,0):=by
 have q:=(okI_of (chkS_zero h).2.2).1
 unfold endV; rw [if_pos h]
 by_cases e:s.st=4
 ·rw [if_pos e]
 ·rw [if_neg e,if_pos (by omega)]
theorem endV_bad {s:SagaM} (h:¬ chkS s=0):endV s=(false,chkS s):=by unfold endV; rw [if_neg h]
/-- What skaldref28.Next gives. -/
def rnextV (s:SagaM):Int × Int × Bool × Int:=if ((chkS s):Int)=0 then (if ((s.st):Int) < 4 then (if ((s.st):Int)=2 then ((s.ix),3,true,0) else (if ((s.st):Int)=3 then ((s.ix),2,true,0) else ((s.ix),1,true,0))) else (0,0,false,0)) else (0,0,false,(chkS s))
set_option maxHeartbeats 4000000 in
theorem rnextV_ok (h:Heap) (s:SagaM) (sa:Option Addr) (cp:Nat) (hl:LAt h stepc 2 s.d.xs (.slice sa s.d.xs.length cp)) (hlen:s.d.xs.length≤9223372036854775807) (hnm:s.d.name.size≤9223372036854775807) (hks:∀ x ∈ s.d.xs,x.key.size≤9223372036854775807):WCall Tryz.prog 94 #[(Value.agg #[(vS s.d.name),(vI (s.d.rt)),(vI (s.d.dl)),(Value.slice sa (s.d.xs.length) (cp)),(vI (s.st)),(vI (s.ix)),(vB s.cn),(vI (s.tr)),(vI (s.bg)),(vI (s.er))])] h (fun v h1=>v=(Value.tuple #[(Value.agg #[(vI 0),(vI ((rnextV s).1)),(vI ((rnextV s).2.1))]),(vB (rnextV s).2.2.1),(vI ((rnextV s).2.2.2))])∧Ext h h1):=by
 obtain ⟨b1,eb2⟩:∃ zq,zq=h.size:=⟨_,rfl⟩
 obtain ⟨h3,e4⟩:∃ zq,zq=h.push (.cells #[(vS s.d.name),(vI (s.d.rt)),(vI (s.d.dl)),(Value.slice sa (s.d.xs.length) (cp)),(vI (s.st)),(vI (s.ix)),(vB s.cn),(vI (s.tr)),(vI (s.bg)),(vI (s.er))] 51 (0,0)):=⟨_,rfl⟩
 have f5:=push_new e4
 rw [← eb2] at f5
 have x6:Ext h h3:=by rw [e4]; exact Ext.push _ _
 have o7:h.size≤b1:=by have:=(Ext.refl h).size; omega
 have x8:=(Ext.refl h).trans x6
 obtain ⟨b9,eb10⟩:∃ zq,zq=h3.size:=⟨_,rfl⟩
 obtain ⟨h11,e12⟩:∃ zq,zq=h3.push (.cells #[(vI 0),(vI 0),(vI 0)] 33 (0,0)):=⟨_,rfl⟩
 have f13:=push_new e12
 rw [← eb10] at f13
 have x14:Ext h3 h11:=by rw [e12]; exact Ext.push _ _
 have o15:h.size≤b9:=by have:=x8.size; omega
 have f17:=x14 _ _ f5
 have x18:=x8.trans x14
 obtain ⟨_,h19,s20,rfl,x21⟩:=endV_ok h11 s _ _ (hl.keep fun b r _ q=>x18 b r q) (by omega) hnm hks
 have f22:=x21 _ _ f17
 have f23:=x21 _ _ f13
 have x24:=x18.trans x21
 by_cases c25:((chkS s):Int)=0
 ·obtain ⟨z2556d,z2556b,z2556o⟩:=chkS_zero c25
  have:=defB_of z2556d
  have:=budB_of z2556b
  have z2556i:=okI_of z2556o
  have:=z2556i.1
  by_cases c26:((s.st):Int) < 4
  ·by_cases c27:((s.st):Int)=2
   ·have c28:¬ ((s.st):Int)=3:=by omega
    obtain ⟨h29,e30⟩:∃ zq,zq=h19.setIfInBounds b9 (.cells #[(vI 0),(vI (s.ix)),(vI 3)] 33 (0,0)):=⟨_,rfl⟩
    have f31:=set_same e30 f23
    have x32:=Ext.setNew x24 e30 o15
    have e33:(rnextV s)=((s.ix),3,true,0):=by unfold rnextV; rw [if_pos c25,if_pos c26,if_pos c27]
    exact hCall_ev [evA 0 0 eb2 e4,evA 0 1 eb10 e12,evLw 1 0 agg51 size51 f17,evF 1 1 (by rw [endV_open c25 c26] at s20; exact s20),evC 5 1 4 agg3 f22,eqT 5 2 3 c27,evC 7 1 4 agg3 f22,eqF 7 2 3 c28,evC 9 1 5 agg3 f22,evUw 9 4 size33 f23 e30] [evLw 0 0 agg33 size33 f31,evR (vB true),evR (vI 0)] (vT #[(vA #[(vI 0),(vI s.ix),(vI 3)]),(vB true),(vI 0)]) h29 ⟨by rw [e33],x32⟩
   ·by_cases c34:((s.st):Int)=3
    ·obtain ⟨h35,e36⟩:∃ zq,zq=h19.setIfInBounds b9 (.cells #[(vI 0),(vI (s.ix)),(vI 2)] 33 (0,0)):=⟨_,rfl⟩
     have f37:=set_same e36 f23
     have x38:=Ext.setNew x24 e36 o15
     have e39:(rnextV s)=((s.ix),2,true,0):=by unfold rnextV; rw [if_pos c25,if_pos c26,if_neg c27,if_pos c34]
     exact hCall_ev [evA 0 0 eb2 e4,evA 0 1 eb10 e12,evLw 1 0 agg51 size51 f17,evF 1 1 (by rw [endV_open c25 c26] at s20; exact s20),evC 5 1 4 agg3 f22,eqF 5 2 3 c27,evC 7 1 4 agg3 f22,eqT 7 2 3 c34,evC 9 1 5 agg3 f22,evUw 9 4 size33 f23 e36] [evLw 0 0 agg33 size33 f37,evR (vB true),evR (vI 0)] (vT #[(vA #[(vI 0),(vI s.ix),(vI 2)]),(vB true),(vI 0)]) h35 ⟨by rw [e39],x38⟩
    ·obtain ⟨h40,e41⟩:∃ zq,zq=h19.setIfInBounds b9 (.cells #[(vI 0),(vI (s.ix)),(vI 1)] 33 (0,0)):=⟨_,rfl⟩
     have f42:=set_same e41 f23
     have x43:=Ext.setNew x24 e41 o15
     have e44:(rnextV s)=((s.ix),1,true,0):=by unfold rnextV; rw [if_pos c25,if_pos c26,if_neg c27,if_neg c34]
     exact hCall_ev [evA 0 0 eb2 e4,evA 0 1 eb10 e12,evLw 1 0 agg51 size51 f17,evF 1 1 (by rw [endV_open c25 c26] at s20; exact s20),evC 5 1 4 agg3 f22,eqF 5 2 3 c27,evC 7 1 4 agg3 f22,eqF 7 2 3 c34,evC 9 1 5 agg3 f22,evUw 9 4 size33 f23 e41] [evLw 0 0 agg33 size33 f42,evR (vB true),evR (vI 0)] (vT #[(vA #[(vI 0),(vI s.ix),(vI 1)]),(vB true),(vI 0)]) h40 ⟨by rw [e44],x43⟩
  ·obtain ⟨h45,e46⟩:∃ zq,zq=h19.setIfInBounds b9 (.cells #[(vI 0),(vI 0),(vI 0)] 33 (0,0)):=⟨_,rfl⟩
   have f47:=set_same e46 f23
   have x48:=Ext.setNew x24 e46 o15
   have e49:(rnextV s)=(0,0,false,0):=by unfold rnextV; rw [if_pos c25,if_neg c26]
   exact hCall_ev [evA 0 0 eb2 e4,evA 0 1 eb10 e12,evLw 1 0 agg51 size51 f17,evF 1 1 (by rw [endV_done c25 c26] at s20; exact s20),evUw 3 2 size33 f23 e46] [evLw 0 0 agg33 size33 f47,evR (vB false),evR (vI 0)] (vT #[(vA #[(vI 0),(vI 0),(vI 0)]),(vB false),(vI 0)]) h45 ⟨by rw [e49],x48⟩
 ·obtain ⟨h50,e51⟩:∃ zq,zq=h19.setIfInBounds b9 (.cells #[(vI 0),(vI 0),(vI 0)] 33 (0,0)):=⟨_,rfl⟩
  have f52:=set_same e51 f23
  have x53:=Ext.setNew x24 e51 o15
  have e54:(rnextV s)=(0,0,false,(chkS s)):=by unfold rnextV; rw [if_neg c25]
  exact hCall_ev [evA 0 0 eb2 e4,evA 0 1 eb10 e12,evLw 1 0 agg51 size51 f17,evF 1 1 (by rw [endV_bad c25] at s20; exact s20),neT 2 1 34 c25,evUw 3 2 size33 f23 e51] [evLw 0 0 agg33 size33 f52,evR (vB false),evR (vI (chkS s))] (vT #[(vA #[(vI 0),(vI 0),(vI 0)]),(vB false),(vI (chkS s))]) h50 ⟨by rw [e54],x53⟩
theorem rnextV_eq (s:SagaM):rnextV s=nextV s:=by
 unfold rnextV nextV
 by_cases hc:chkS s=0
 ·have ho:=okI_of (chkS_zero hc).2.2
  simp only [if_pos hc]
  
  repeat' split
  all_goals first | rfl | contradiction | (exfalso; omega) | (simp_all; done)
 ·simp only [if_neg hc]
theorem rnextV_can (h:Heap) (s:SagaM) (sa:Option Addr) (cp:Nat) (hl:LAt h stepc 2 s.d.xs (.slice sa s.d.xs.length cp)) (hlen:s.d.xs.length≤9223372036854775807) (hnm:s.d.name.size≤9223372036854775807) (hks:∀ x ∈ s.d.xs,x.key.size≤9223372036854775807):WCall Tryz.prog 94 #[(Value.agg #[(vS s.d.name),(vI (s.d.rt)),(vI (s.d.dl)),(Value.slice sa (s.d.xs.length) (cp)),(vI (s.st)),(vI (s.ix)),(vB s.cn),(vI (s.tr)),(vI (s.bg)),(vI (s.er))])] h (fun v h1=>v=(Value.tuple #[(Value.agg #[(vI 0),(vI ((nextV s).1)),(vI ((nextV s).2.1))]),(vB (nextV s).2.2.1),(vI ((nextV s).2.2.2))])∧Ext h h1):=by
 have q:=rnextV_ok h s sa cp hl hlen hnm hks
 rw [rnextV_eq] at q
 exact q
set_option maxHeartbeats 4000000 in
theorem rtoS_ok (h:Heap) (s:SagaM) (sa:Option Addr) (cp:Nat) (hl:LAt h stepc 2 s.d.xs (.slice sa s.d.xs.length cp)) (hlen:s.d.xs.length≤9223372036854775807) (a:Int) (b:Int) (e:Int):WCall Tryz.prog 96 #[(Value.agg #[(vS s.d.name),(vI (s.d.rt)),(vI (s.d.dl)),(Value.slice sa (s.d.xs.length) (cp)),(vI (s.st)),(vI (s.ix)),(vB s.cn),(vI (s.tr)),(vI (s.bg)),(vI (s.er))]),(vI (a)),(vI (b)),(vI (e))] h (fun v h1=>v=(Value.agg #[(vS s.d.name),(vI (s.d.rt)),(vI (s.d.dl)),(Value.slice sa (s.d.xs.length) (cp)),(vI (a)),(vI (b)),(vB s.cn),(vI 0),(vI (s.bg)),(vI (e))])∧Ext h h1):=by
 obtain ⟨b1,eb2⟩:∃ zq,zq=h.size:=⟨_,rfl⟩
 obtain ⟨h3,e4⟩:∃ zq,zq=h.push (.cells #[(vS s.d.name),(vI (s.d.rt)),(vI (s.d.dl)),(Value.slice sa (s.d.xs.length) (cp)),(vI (s.st)),(vI (s.ix)),(vB s.cn),(vI (s.tr)),(vI (s.bg)),(vI (s.er))] 51 (0,0)):=⟨_,rfl⟩
 have f5:=push_new e4
 rw [← eb2] at f5
 have x6:Ext h h3:=by rw [e4]; exact Ext.push _ _
 have o7:h.size≤b1:=by have:=(Ext.refl h).size; omega
 have x8:=(Ext.refl h).trans x6
 obtain ⟨b9,eb10⟩:∃ zq,zq=h3.size:=⟨_,rfl⟩
 obtain ⟨h11,e12⟩:∃ zq,zq=h3.push (.cells #[(vS .empty),(vI 0),(vI 0),(Value.slice none 0 0),(vI 0),(vI 0),(vB false),(vI 0),(vI 0),(vI 0)] 51 (0,0)):=⟨_,rfl⟩
 have f13:=push_new e12
 rw [← eb10] at f13
 have n14:b9 ≠ b1:=by have:=row_lt f5; omega
 have x15:Ext h3 h11:=by rw [e12]; exact Ext.push _ _
 have o16:h.size≤b9:=by have:=x8.size; omega
 have f17:=x15 _ _ f5
 have x18:=x8.trans x15
 obtain ⟨h19,e20⟩:∃ zq,zq=h11.setIfInBounds b1 (.cells #[(vS s.d.name),(vI (s.d.rt)),(vI (s.d.dl)),(Value.slice sa (s.d.xs.length) (cp)),(vI (a)),(vI (s.ix)),(vB s.cn),(vI (s.tr)),(vI (s.bg)),(vI (s.er))] 51 (0,0)):=⟨_,rfl⟩
 have f21:=set_same e20 f17
 have f22:=set_other e20 f13 n14.symm
 have x23:=Ext.setNew x18 e20 o7
 obtain ⟨h24,e25⟩:∃ zq,zq=h19.setIfInBounds b1 (.cells #[(vS s.d.name),(vI (s.d.rt)),(vI (s.d.dl)),(Value.slice sa (s.d.xs.length) (cp)),(vI (a)),(vI (b)),(vB s.cn),(vI (s.tr)),(vI (s.bg)),(vI (s.er))] 51 (0,0)):=⟨_,rfl⟩
 have f26:=set_same e25 f21
 have f27:=set_other e25 f22 n14.symm
 have x28:=Ext.setNew x23 e25 o7
 obtain ⟨h29,e30⟩:∃ zq,zq=h24.setIfInBounds b1 (.cells #[(vS s.d.name),(vI (s.d.rt)),(vI (s.d.dl)),(Value.slice sa (s.d.xs.length) (cp)),(vI (a)),(vI (b)),(vB s.cn),(vI (s.tr)),(vI (s.bg)),(vI (e))] 51 (0,0)):=⟨_,rfl⟩
 have f31:=set_same e30 f26
 have f33:=set_other e30 f27 n14.symm
 have x34:=Ext.setNew x28 e30 o7
 obtain ⟨_,hh35,sn36,rfl,x37⟩:=rnext_ok h29 s.tr s.bg
 have f38:=x37 _ _ f31
 have f39:=x37 _ _ f33
 have x40:=x34.trans x37
 obtain ⟨h41,e42⟩:∃ zq,zq=hh35.setIfInBounds b1 (.cells #[(vS s.d.name),(vI (s.d.rt)),(vI (s.d.dl)),(Value.slice sa (s.d.xs.length) (cp)),(vI (a)),(vI (b)),(vB s.cn),(vI 0),(vI (s.bg)),(vI (e))] 51 (0,0)):=⟨_,rfl⟩
 have f43:=set_same e42 f38
 have f44:=set_other e42 f39 n14.symm
 have x45:=Ext.setNew x40 e42 o7
 obtain ⟨h46,e47⟩:∃ zq,zq=h41.setIfInBounds b9 (.cells #[(vS s.d.name),(vI (s.d.rt)),(vI (s.d.dl)),(Value.slice sa (s.d.xs.length) (cp)),(vI (a)),(vI (b)),(vB s.cn),(vI 0),(vI (s.bg)),(vI (e))] 51 (0,0)):=⟨_,rfl⟩
 have f48:=set_same e47 f44
 have x49:=Ext.setNew x45 e47 o16
 exact hCall_ev [evA 0 0 eb2 e4,evA 0 1 eb10 e12,evT 1 2 4 size3 f17 e20,evT 2 2 5 size3 f21 e25,evT 3 2 9 size34 f26 e30,evL 4 1 7 agg49 size49 f31,evF 4 2 sn36,evU 4 4 7 size49 f38 e42,evLw 5 0 agg51 size51 f43,evUw 5 1 size51 f44 e47] [evLw 0 0 agg51 size51 f48] (vA #[(vS s.d.name),(vI s.d.rt),(vI s.d.dl),(vL sa s.d.xs.length cp),(vI a),(vI b),(vB s.cn),(vI 0),(vI s.bg),(vI e)]) h46 ⟨rfl,x49⟩
/-- What skaldref28.forward gives. -/
def rfwdS (s:SagaM) (res:Int) (now:Int):Int × Int × Int × Int × Int:=if ((res):Int)=16 then (if s.cn=true then (3,(s.ix),0,(s.bg),9) else (if (lateM s.tr s.bg s.d now)=true then (3,(s.ix),0,(s.bg),11) else (if (agB s.tr s.bg s.d now)=true then ((s.st),(s.ix),(agT s.tr s.bg s.d now),(agS s.tr s.bg s.d now),(s.er)) else (3,(s.ix),0,(s.bg),(res))))) else (if ((res):Int)=17 then (if s.cn=true then (3,(s.ix),0,(s.bg),9) else (if (lateM s.tr s.bg s.d now)=true then (3,(s.ix),0,(s.bg),11) else (if (agB s.tr s.bg s.d now)=true then ((s.st),(s.ix),(agT s.tr s.bg s.d now),(agS s.tr s.bg s.d now),(s.er)) else (3,(s.ix),0,(s.bg),(res))))) else (if ((res):Int)=18 then (if s.cn=true then (3,(s.ix),0,(s.bg),9) else (if (lateM s.tr s.bg s.d now)=true then (3,(s.ix),0,(s.bg),11) else (if (agB s.tr s.bg s.d now)=true then ((s.st),(s.ix),(agT s.tr s.bg s.d now),(agS s.tr s.bg s.d now),(s.er)) else (3,(s.ix),0,(s.bg),(res))))) else (if ((res):Int)=0 then (if s.cn=true then (3,(s.ix),0,(s.bg),9) else (if (lateM s.tr s.bg s.d now)=true then (3,(s.ix),0,(s.bg),11) else (if ((s.ix):Int) < (((s.d.xs.length:Nat)) - 1) then (1,((s.ix) + 1),0,(s.bg),0) else (2,0,0,(s.bg),0)))) else (if ((s.ix):Int)=0 then (5,0,0,(s.bg),(res)) else (3,((s.ix) - 1),0,(s.bg),(res))))))
set_option maxHeartbeats 4000000 in
theorem rfwdS_ok (h:Heap) (s:SagaM) (sa:Option Addr) (cp:Nat) (hl:LAt h stepc 2 s.d.xs (.slice sa s.d.xs.length cp)) (hlen:s.d.xs.length≤9223372036854775807) (hnm:s.d.name.size≤9223372036854775807) (hks:∀ x ∈ s.d.xs,x.key.size≤9223372036854775807) (res:Int) (now:Int) (hok:chkS s=0):WCall Tryz.prog 95 #[(Value.agg #[(vS s.d.name),(vI (s.d.rt)),(vI (s.d.dl)),(Value.slice sa (s.d.xs.length) (cp)),(vI (s.st)),(vI (s.ix)),(vB s.cn),(vI (s.tr)),(vI (s.bg)),(vI (s.er))]),(vI (res)),(vI (now))] h (fun v h1=>v=(Value.agg #[(vS s.d.name),(vI (s.d.rt)),(vI (s.d.dl)),(Value.slice sa (s.d.xs.length) (cp)),(vI ((rfwdS s res now).1)),(vI ((rfwdS s res now).2.1)),(vB s.cn),(vI ((rfwdS s res now).2.2.1)),(vI ((rfwdS s res now).2.2.2.1)),(vI ((rfwdS s res now).2.2.2.2))])∧Ext h h1):=by
 obtain ⟨z2652d,z2652b,z2652o⟩:=chkS_zero hok
 have:=defB_of z2652d
 have:=budB_of z2652b
 have z2652i:=okI_of z2652o
 have:=z2652i.1
 obtain ⟨b1,eb2⟩:∃ zq,zq=h.size:=⟨_,rfl⟩
 obtain ⟨h3,e4⟩:∃ zq,zq=h.push (.cells #[(vS s.d.name),(vI (s.d.rt)),(vI (s.d.dl)),(Value.slice sa (s.d.xs.length) (cp)),(vI (s.st)),(vI (s.ix)),(vB s.cn),(vI (s.tr)),(vI (s.bg)),(vI (s.er))] 51 (0,0)):=⟨_,rfl⟩
 have f5:=push_new e4
 rw [← eb2] at f5
 have x6:Ext h h3:=by rw [e4]; exact Ext.push _ _
 have o7:h.size≤b1:=by have:=(Ext.refl h).size; omega
 have x8:=(Ext.refl h).trans x6
 obtain ⟨b9,eb10⟩:∃ zq,zq=h3.size:=⟨_,rfl⟩
 obtain ⟨h11,e12⟩:∃ zq,zq=h3.push (.cells #[(vS .empty),(vI 0),(vI 0),(Value.slice none 0 0),(vI 0),(vI 0),(vB false),(vI 0),(vI 0),(vI 0)] 51 (0,0)):=⟨_,rfl⟩
 have f13:=push_new e12
 rw [← eb10] at f13
 have n14:b9 ≠ b1:=by have:=row_lt f5; omega
 have x15:Ext h3 h11:=by rw [e12]; exact Ext.push _ _
 have o16:h.size≤b9:=by have:=x8.size; omega
 have f17:=x15 _ _ f5
 have x18:=x8.trans x15
 obtain ⟨_,hh19,sn20,rfl,x21⟩:=rlate_ok h11 s.tr s.bg s.d _ _ (hl.keep fun b r _ q=>x18 b r q) (by omega) hnm hks now
 have f22:=x21 _ _ f17
 have f23:=x21 _ _ f13
 have x24:=x18.trans x21
 by_cases c25:((res):Int)=16
 ·have c26:¬ ((res):Int)=0:=by omega
  rcases Bool.eq_false_or_eq_true (s.cn) with c27 | c27
  ·obtain ⟨_,hh28,sn29,rfl,x30⟩:=rtoS_ok hh19 s _ _ (hl.keep fun b r _ q=>x24 b r q) (by omega) 3 (s.ix) 9 
   have f31:=x30 _ _ f23
   have x32:=x24.trans x30
   obtain ⟨h33,e34⟩:∃ zq,zq=hh28.setIfInBounds b9 (.cells #[(vS s.d.name),(vI (s.d.rt)),(vI (s.d.dl)),(Value.slice sa (s.d.xs.length) (cp)),(vI 3),(vI (s.ix)),(vB s.cn),(vI 0),(vI (s.bg)),(vI 9)] 51 (0,0)):=⟨_,rfl⟩
   have f35:=set_same e34 f31
   have x36:=Ext.setNew x32 e34 o16
   have e37:(rfwdS s res now)=(3,(s.ix),0,(s.bg),9):=by unfold rfwdS; rw [if_pos c25,if_pos c27]
   exact hCall_ev [evA 0 0 eb2 e4,evA 0 1 eb10 e12,evL 1 1 7 agg49 size49 f17,evL 1 3 0 agg31 size31 f17,evF 1 5 sn20,eqT 2 1 34 c25,neT 3 1 34 c26,evCb 7 1 6 agg4 f22 c27,evLw 8 0 agg51 size51 f22,evC 8 2 5 agg3 f22,evF 8 3 sn29,evUw 8 4 size51 f31 e34] [evLw 0 0 agg51 size51 f35] (vA #[(vS s.d.name),(vI s.d.rt),(vI s.d.dl),(vL sa s.d.xs.length cp),(vI 3),(vI s.ix),(vB s.cn),(vI 0),(vI s.bg),(vI 9)]) h33 ⟨by rw [e37],x36⟩
  ·rcases Bool.eq_false_or_eq_true ((lateM s.tr s.bg s.d now)) with c38 | c38
   ·obtain ⟨_,hh39,sn40,rfl,x41⟩:=rtoS_ok hh19 s _ _ (hl.keep fun b r _ q=>x24 b r q) (by omega) 3 (s.ix) 11 
    have f42:=x41 _ _ f23
    have x43:=x24.trans x41
    obtain ⟨h44,e45⟩:∃ zq,zq=hh39.setIfInBounds b9 (.cells #[(vS s.d.name),(vI (s.d.rt)),(vI (s.d.dl)),(Value.slice sa (s.d.xs.length) (cp)),(vI 3),(vI (s.ix)),(vB s.cn),(vI 0),(vI (s.bg)),(vI 11)] 51 (0,0)):=⟨_,rfl⟩
    have f46:=set_same e45 f42
    have x47:=Ext.setNew x43 e45 o16
    have e48:(rfwdS s res now)=(3,(s.ix),0,(s.bg),11):=by unfold rfwdS; rw [if_pos c25,if_neg (Bool.eq_false_iff.1 c27),if_pos c38]
    exact hCall_ev [evA 0 0 eb2 e4,evA 0 1 eb10 e12,evL 1 1 7 agg49 size49 f17,evL 1 3 0 agg31 size31 f17,evF 1 5 sn20,eqT 2 1 34 c25,neT 3 1 34 c26,evCb 7 1 6 agg4 f22 c27,evM 9 0 c38,evLw 10 0 agg51 size51 f22,evC 10 2 5 agg3 f22,evF 10 3 sn40,evUw 10 4 size51 f42 e45] [evLw 0 0 agg51 size51 f46] (vA #[(vS s.d.name),(vI s.d.rt),(vI s.d.dl),(vL sa s.d.xs.length cp),(vI 3),(vI s.ix),(vB s.cn),(vI 0),(vI s.bg),(vI 11)]) h44 ⟨by rw [e48],x47⟩
   ·obtain ⟨_,hh49,sn50,rfl,x51⟩:=ragain_ok hh19 s.tr s.bg s.d _ _ (hl.keep fun b r _ q=>x24 b r q) (by omega) hnm hks now
    have f52:=x51 _ _ f22
    have f53:=x51 _ _ f23
    have x54:=x24.trans x51
    obtain ⟨b55,eb56⟩:∃ zq,zq=hh49.size:=⟨_,rfl⟩
    obtain ⟨h57,e58⟩:∃ zq,zq=hh49.push (.cells #[(vI 0),(vI 0)] 49 (0,0)):=⟨_,rfl⟩
    have f59:=push_new e58
    rw [← eb56] at f59
    have n60:b55 ≠ b1:=by have:=row_lt f52; omega
    have n61:b55 ≠ b9:=by have:=row_lt f53; omega
    have x62:Ext hh49 h57:=by rw [e58]; exact Ext.push _ _
    have o63:h.size≤b55:=by have:=x54.size; omega
    have f65:=x62 _ _ f52
    have f66:=x62 _ _ f53
    have x67:=x54.trans x62
    obtain ⟨h68,e69⟩:∃ zq,zq=h57.setIfInBounds b55 (.cells #[(vI (agT s.tr s.bg s.d now)),(vI (agS s.tr s.bg s.d now))] 49 (0,0)):=⟨_,rfl⟩
    have f70:=set_same e69 f59
    have f71:=set_other e69 f65 n60
    have f72:=set_other e69 f66 n61
    have x73:=Ext.setNew x67 e69 o63
    rcases Bool.eq_false_or_eq_true ((agB s.tr s.bg s.d now)) with c74 | c74
    ·obtain ⟨h75,e76⟩:∃ zq,zq=h68.setIfInBounds b1 (.cells #[(vS s.d.name),(vI (s.d.rt)),(vI (s.d.dl)),(Value.slice sa (s.d.xs.length) (cp)),(vI (s.st)),(vI (s.ix)),(vB s.cn),(vI (agT s.tr s.bg s.d now)),(vI (agS s.tr s.bg s.d now)),(vI (s.er))] 51 (0,0)):=⟨_,rfl⟩
     have f77:=set_same e76 f71
     have f78:=set_other e76 f72 n14.symm
     have x79:=Ext.setNew x73 e76 o7
     obtain ⟨h80,e81⟩:∃ zq,zq=h75.setIfInBounds b9 (.cells #[(vS s.d.name),(vI (s.d.rt)),(vI (s.d.dl)),(Value.slice sa (s.d.xs.length) (cp)),(vI (s.st)),(vI (s.ix)),(vB s.cn),(vI (agT s.tr s.bg s.d now)),(vI (agS s.tr s.bg s.d now)),(vI (s.er))] 51 (0,0)):=⟨_,rfl⟩
     have f82:=set_same e81 f78
     have x83:=Ext.setNew x79 e81 o16
     have e84:(rfwdS s res now)=((s.st),(s.ix),(agT s.tr s.bg s.d now),(agS s.tr s.bg s.d now),(s.er)):=by unfold rfwdS; rw [if_pos c25,if_neg (Bool.eq_false_iff.1 c27),if_neg (Bool.eq_false_iff.1 c38),if_pos c74]
     exact hCall_ev [evA 0 0 eb2 e4,evA 0 1 eb10 e12,evL 1 1 7 agg49 size49 f17,evL 1 3 0 agg31 size31 f17,evF 1 5 sn20,eqT 2 1 34 c25,neT 3 1 34 c26,evCb 7 1 6 agg4 f22 c27,evM 9 0 c38,evL 12 1 7 agg49 size49 f22,evL 12 3 0 agg31 size31 f22,evF 12 5 sn50,evA 12 10 eb56 e58,evUw 12 11 size49 f59 e69,evM 13 0 c74,evLw 15 0 agg49 size49 f70,evU 15 2 7 size49 f71 e76,evLw 16 0 agg51 size51 f77,evUw 16 1 size51 f78 e81] [evLw 0 0 agg51 size51 f82] (vA #[(vS s.d.name),(vI s.d.rt),(vI s.d.dl),(vL sa s.d.xs.length cp),(vI s.st),(vI s.ix),(vB s.cn),(vI (agT s.tr s.bg s.d now)),(vI (agS s.tr s.bg s.d now)),(vI s.er)]) h80 ⟨by rw [e84],x83⟩
    ·obtain ⟨_,hh85,sn86,rfl,x87⟩:=rtoS_ok h68 s _ _ (hl.keep fun b r _ q=>x73 b r q) (by omega) 3 (s.ix) (res) 
     have f88:=x87 _ _ f72
     have x89:=x73.trans x87
     obtain ⟨h90,e91⟩:∃ zq,zq=hh85.setIfInBounds b9 (.cells #[(vS s.d.name),(vI (s.d.rt)),(vI (s.d.dl)),(Value.slice sa (s.d.xs.length) (cp)),(vI 3),(vI (s.ix)),(vB s.cn),(vI 0),(vI (s.bg)),(vI (res))] 51 (0,0)):=⟨_,rfl⟩
     have f92:=set_same e91 f88
     have x93:=Ext.setNew x89 e91 o16
     have e94:(rfwdS s res now)=(3,(s.ix),0,(s.bg),(res)):=by unfold rfwdS; rw [if_pos c25,if_neg (Bool.eq_false_iff.1 c27),if_neg (Bool.eq_false_iff.1 c38),if_neg (Bool.eq_false_iff.1 c74)]
     exact hCall_ev [evA 0 0 eb2 e4,evA 0 1 eb10 e12,evL 1 1 7 agg49 size49 f17,evL 1 3 0 agg31 size31 f17,evF 1 5 sn20,eqT 2 1 34 c25,neT 3 1 34 c26,evCb 7 1 6 agg4 f22 c27,evM 9 0 c38,evL 12 1 7 agg49 size49 f22,evL 12 3 0 agg31 size31 f22,evF 12 5 sn50,evA 12 10 eb56 e58,evUw 12 11 size49 f59 e69,evM 13 0 c74,evLw 14 0 agg51 size51 f71,evC 14 2 5 agg3 f71,evF 14 4 sn86,evUw 14 5 size51 f88 e91] [evLw 0 0 agg51 size51 f92] (vA #[(vS s.d.name),(vI s.d.rt),(vI s.d.dl),(vL sa s.d.xs.length cp),(vI 3),(vI s.ix),(vB s.cn),(vI 0),(vI s.bg),(vI res)]) h90 ⟨by rw [e94],x93⟩
 ·by_cases c95:((res):Int)=17
  ·have c96:¬ ((res):Int)=0:=by omega
   rcases Bool.eq_false_or_eq_true (s.cn) with c97 | c97
   ·obtain ⟨_,hh98,sn99,rfl,x100⟩:=rtoS_ok hh19 s _ _ (hl.keep fun b r _ q=>x24 b r q) (by omega) 3 (s.ix) 9 
    have f101:=x100 _ _ f23
    have x102:=x24.trans x100
    obtain ⟨h103,e104⟩:∃ zq,zq=hh98.setIfInBounds b9 (.cells #[(vS s.d.name),(vI (s.d.rt)),(vI (s.d.dl)),(Value.slice sa (s.d.xs.length) (cp)),(vI 3),(vI (s.ix)),(vB s.cn),(vI 0),(vI (s.bg)),(vI 9)] 51 (0,0)):=⟨_,rfl⟩
    have f105:=set_same e104 f101
    have x106:=Ext.setNew x102 e104 o16
    have e107:(rfwdS s res now)=(3,(s.ix),0,(s.bg),9):=by unfold rfwdS; rw [if_neg c25,if_pos c95,if_pos c97]
    exact hCall_ev [evA 0 0 eb2 e4,evA 0 1 eb10 e12,evL 1 1 7 agg49 size49 f17,evL 1 3 0 agg31 size31 f17,evF 1 5 sn20,eqF 2 1 34 c25,eqT 2 4 34 c95,neT 3 1 34 c96,evCb 7 1 6 agg4 f22 c97,evLw 8 0 agg51 size51 f22,evC 8 2 5 agg3 f22,evF 8 3 sn99,evUw 8 4 size51 f101 e104] [evLw 0 0 agg51 size51 f105] (vA #[(vS s.d.name),(vI s.d.rt),(vI s.d.dl),(vL sa s.d.xs.length cp),(vI 3),(vI s.ix),(vB s.cn),(vI 0),(vI s.bg),(vI 9)]) h103 ⟨by rw [e107],x106⟩
   ·rcases Bool.eq_false_or_eq_true ((lateM s.tr s.bg s.d now)) with c108 | c108
    ·obtain ⟨_,hh109,sn110,rfl,x111⟩:=rtoS_ok hh19 s _ _ (hl.keep fun b r _ q=>x24 b r q) (by omega) 3 (s.ix) 11 
     have f112:=x111 _ _ f23
     have x113:=x24.trans x111
     obtain ⟨h114,e115⟩:∃ zq,zq=hh109.setIfInBounds b9 (.cells #[(vS s.d.name),(vI (s.d.rt)),(vI (s.d.dl)),(Value.slice sa (s.d.xs.length) (cp)),(vI 3),(vI (s.ix)),(vB s.cn),(vI 0),(vI (s.bg)),(vI 11)] 51 (0,0)):=⟨_,rfl⟩
     have f116:=set_same e115 f112
     have x117:=Ext.setNew x113 e115 o16
     have e118:(rfwdS s res now)=(3,(s.ix),0,(s.bg),11):=by unfold rfwdS; rw [if_neg c25,if_pos c95,if_neg (Bool.eq_false_iff.1 c97),if_pos c108]
     exact hCall_ev [evA 0 0 eb2 e4,evA 0 1 eb10 e12,evL 1 1 7 agg49 size49 f17,evL 1 3 0 agg31 size31 f17,evF 1 5 sn20,eqF 2 1 34 c25,eqT 2 4 34 c95,neT 3 1 34 c96,evCb 7 1 6 agg4 f22 c97,evM 9 0 c108,evLw 10 0 agg51 size51 f22,evC 10 2 5 agg3 f22,evF 10 3 sn110,evUw 10 4 size51 f112 e115] [evLw 0 0 agg51 size51 f116] (vA #[(vS s.d.name),(vI s.d.rt),(vI s.d.dl),(vL sa s.d.xs.length cp),(vI 3),(vI s.ix),(vB s.cn),(vI 0),(vI s.bg),(vI 11)]) h114 ⟨by rw [e118],x117⟩
    ·obtain ⟨_,hh119,sn120,rfl,x121⟩:=ragain_ok hh19 s.tr s.bg s.d _ _ (hl.keep fun b r _ q=>x24 b r q) (by omega) hnm hks now
     have f122:=x121 _ _ f22
     have f123:=x121 _ _ f23
     have x124:=x24.trans x121
     obtain ⟨b125,eb126⟩:∃ zq,zq=hh119.size:=⟨_,rfl⟩
     obtain ⟨h127,e128⟩:∃ zq,zq=hh119.push (.cells #[(vI 0),(vI 0)] 49 (0,0)):=⟨_,rfl⟩
     have f129:=push_new e128
     rw [← eb126] at f129
     have n130:b125 ≠ b1:=by have:=row_lt f122; omega
     have n131:b125 ≠ b9:=by have:=row_lt f123; omega
     have x132:Ext hh119 h127:=by rw [e128]; exact Ext.push _ _
     have o133:h.size≤b125:=by have:=x124.size; omega
     have f134:=x132 _ _ f122
     have f135:=x132 _ _ f123
     have x136:=x124.trans x132
     obtain ⟨h137,e138⟩:∃ zq,zq=h127.setIfInBounds b125 (.cells #[(vI (agT s.tr s.bg s.d now)),(vI (agS s.tr s.bg s.d now))] 49 (0,0)):=⟨_,rfl⟩
     have f139:=set_same e138 f129
     have f140:=set_other e138 f134 n130
     have f141:=set_other e138 f135 n131
     have x142:=Ext.setNew x136 e138 o133
     rcases Bool.eq_false_or_eq_true ((agB s.tr s.bg s.d now)) with c143 | c143
     ·obtain ⟨h144,e145⟩:∃ zq,zq=h137.setIfInBounds b1 (.cells #[(vS s.d.name),(vI (s.d.rt)),(vI (s.d.dl)),(Value.slice sa (s.d.xs.length) (cp)),(vI (s.st)),(vI (s.ix)),(vB s.cn),(vI (agT s.tr s.bg s.d now)),(vI (agS s.tr s.bg s.d now)),(vI (s.er))] 51 (0,0)):=⟨_,rfl⟩
      have f146:=set_same e145 f140
      have f147:=set_other e145 f141 n14.symm
      have x148:=Ext.setNew x142 e145 o7
      obtain ⟨h149,e150⟩:∃ zq,zq=h144.setIfInBounds b9 (.cells #[(vS s.d.name),(vI (s.d.rt)),(vI (s.d.dl)),(Value.slice sa (s.d.xs.length) (cp)),(vI (s.st)),(vI (s.ix)),(vB s.cn),(vI (agT s.tr s.bg s.d now)),(vI (agS s.tr s.bg s.d now)),(vI (s.er))] 51 (0,0)):=⟨_,rfl⟩
      have f151:=set_same e150 f147
      have x152:=Ext.setNew x148 e150 o16
      have e153:(rfwdS s res now)=((s.st),(s.ix),(agT s.tr s.bg s.d now),(agS s.tr s.bg s.d now),(s.er)):=by unfold rfwdS; rw [if_neg c25,if_pos c95,if_neg (Bool.eq_false_iff.1 c97),if_neg (Bool.eq_false_iff.1 c108),if_pos c143]
      exact hCall_ev [evA 0 0 eb2 e4,evA 0 1 eb10 e12,evL 1 1 7 agg49 size49 f17,evL 1 3 0 agg31 size31 f17,evF 1 5 sn20,eqF 2 1 34 c25,eqT 2 4 34 c95,neT 3 1 34 c96,evCb 7 1 6 agg4 f22 c97,evM 9 0 c108,evL 12 1 7 agg49 size49 f22,evL 12 3 0 agg31 size31 f22,evF 12 5 sn120,evA 12 10 eb126 e128,evUw 12 11 size49 f129 e138,evM 13 0 c143,evLw 15 0 agg49 size49 f139,evU 15 2 7 size49 f140 e145,evLw 16 0 agg51 size51 f146,evUw 16 1 size51 f147 e150] [evLw 0 0 agg51 size51 f151] (vA #[(vS s.d.name),(vI s.d.rt),(vI s.d.dl),(vL sa s.d.xs.length cp),(vI s.st),(vI s.ix),(vB s.cn),(vI (agT s.tr s.bg s.d now)),(vI (agS s.tr s.bg s.d now)),(vI s.er)]) h149 ⟨by rw [e153],x152⟩
     ·obtain ⟨_,hh154,sn155,rfl,x156⟩:=rtoS_ok h137 s _ _ (hl.keep fun b r _ q=>x142 b r q) (by omega) 3 (s.ix) (res) 
      have f157:=x156 _ _ f141
      have x158:=x142.trans x156
      obtain ⟨h159,e160⟩:∃ zq,zq=hh154.setIfInBounds b9 (.cells #[(vS s.d.name),(vI (s.d.rt)),(vI (s.d.dl)),(Value.slice sa (s.d.xs.length) (cp)),(vI 3),(vI (s.ix)),(vB s.cn),(vI 0),(vI (s.bg)),(vI (res))] 51 (0,0)):=⟨_,rfl⟩
      have f161:=set_same e160 f157
      have x162:=Ext.setNew x158 e160 o16
      have e163:(rfwdS s res now)=(3,(s.ix),0,(s.bg),(res)):=by unfold rfwdS; rw [if_neg c25,if_pos c95,if_neg (Bool.eq_false_iff.1 c97),if_neg (Bool.eq_false_iff.1 c108),if_neg (Bool.eq_false_iff.1 c143)]
      exact hCall_ev [evA 0 0 eb2 e4,evA 0 1 eb10 e12,evL 1 1 7 agg49 size49 f17,evL 1 3 0 agg31 size31 f17,evF 1 5 sn20,eqF 2 1 34 c25,eqT 2 4 34 c95,neT 3 1 34 c96,evCb 7 1 6 agg4 f22 c97,evM 9 0 c108,evL 12 1 7 agg49 size49 f22,evL 12 3 0 agg31 size31 f22,evF 12 5 sn120,evA 12 10 eb126 e128,evUw 12 11 size49 f129 e138,evM 13 0 c143,evLw 14 0 agg51 size51 f140,evC 14 2 5 agg3 f140,evF 14 4 sn155,evUw 14 5 size51 f157 e160] [evLw 0 0 agg51 size51 f161] (vA #[(vS s.d.name),(vI s.d.rt),(vI s.d.dl),(vL sa s.d.xs.length cp),(vI 3),(vI s.ix),(vB s.cn),(vI 0),(vI s.bg),(vI res)]) h159 ⟨by rw [e163],x162⟩
  ·by_cases c164:((res):Int)=18
   ·have c165:¬ ((res):Int)=0:=by omega
    rcases Bool.eq_false_or_eq_true (s.cn) with c166 | c166
    ·obtain ⟨_,hh167,sn168,rfl,x169⟩:=rtoS_ok hh19 s _ _ (hl.keep fun b r _ q=>x24 b r q) (by omega) 3 (s.ix) 9 
     have f170:=x169 _ _ f23
     have x171:=x24.trans x169
     obtain ⟨h172,e173⟩:∃ zq,zq=hh167.setIfInBounds b9 (.cells #[(vS s.d.name),(vI (s.d.rt)),(vI (s.d.dl)),(Value.slice sa (s.d.xs.length) (cp)),(vI 3),(vI (s.ix)),(vB s.cn),(vI 0),(vI (s.bg)),(vI 9)] 51 (0,0)):=⟨_,rfl⟩
     have f174:=set_same e173 f170
     have x175:=Ext.setNew x171 e173 o16
     have e176:(rfwdS s res now)=(3,(s.ix),0,(s.bg),9):=by unfold rfwdS; rw [if_neg c25,if_neg c95,if_pos c164,if_pos c166]
     exact hCall_ev [evA 0 0 eb2 e4,evA 0 1 eb10 e12,evL 1 1 7 agg49 size49 f17,evL 1 3 0 agg31 size31 f17,evF 1 5 sn20,eqF 2 1 34 c25,eqF 2 4 34 c95,eqT 2 8 34 c164,neT 3 1 34 c165,evCb 7 1 6 agg4 f22 c166,evLw 8 0 agg51 size51 f22,evC 8 2 5 agg3 f22,evF 8 3 sn168,evUw 8 4 size51 f170 e173] [evLw 0 0 agg51 size51 f174] (vA #[(vS s.d.name),(vI s.d.rt),(vI s.d.dl),(vL sa s.d.xs.length cp),(vI 3),(vI s.ix),(vB s.cn),(vI 0),(vI s.bg),(vI 9)]) h172 ⟨by rw [e176],x175⟩
    ·rcases Bool.eq_false_or_eq_true ((lateM s.tr s.bg s.d now)) with c177 | c177
     ·obtain ⟨_,hh178,sn179,rfl,x180⟩:=rtoS_ok hh19 s _ _ (hl.keep fun b r _ q=>x24 b r q) (by omega) 3 (s.ix) 11 
      have f181:=x180 _ _ f23
      have x182:=x24.trans x180
      obtain ⟨h183,e184⟩:∃ zq,zq=hh178.setIfInBounds b9 (.cells #[(vS s.d.name),(vI (s.d.rt)),(vI (s.d.dl)),(Value.slice sa (s.d.xs.length) (cp)),(vI 3),(vI (s.ix)),(vB s.cn),(vI 0),(vI (s.bg)),(vI 11)] 51 (0,0)):=⟨_,rfl⟩
      have f185:=set_same e184 f181
      have x186:=Ext.setNew x182 e184 o16
      have e187:(rfwdS s res now)=(3,(s.ix),0,(s.bg),11):=by unfold rfwdS; rw [if_neg c25,if_neg c95,if_pos c164,if_neg (Bool.eq_false_iff.1 c166),if_pos c177]
      exact hCall_ev [evA 0 0 eb2 e4,evA 0 1 eb10 e12,evL 1 1 7 agg49 size49 f17,evL 1 3 0 agg31 size31 f17,evF 1 5 sn20,eqF 2 1 34 c25,eqF 2 4 34 c95,eqT 2 8 34 c164,neT 3 1 34 c165,evCb 7 1 6 agg4 f22 c166,evM 9 0 c177,evLw 10 0 agg51 size51 f22,evC 10 2 5 agg3 f22,evF 10 3 sn179,evUw 10 4 size51 f181 e184] [evLw 0 0 agg51 size51 f185] (vA #[(vS s.d.name),(vI s.d.rt),(vI s.d.dl),(vL sa s.d.xs.length cp),(vI 3),(vI s.ix),(vB s.cn),(vI 0),(vI s.bg),(vI 11)]) h183 ⟨by rw [e187],x186⟩
     ·obtain ⟨_,hh188,sn189,rfl,x190⟩:=ragain_ok hh19 s.tr s.bg s.d _ _ (hl.keep fun b r _ q=>x24 b r q) (by omega) hnm hks now
      have f191:=x190 _ _ f22
      have f192:=x190 _ _ f23
      have x193:=x24.trans x190
      obtain ⟨b194,eb195⟩:∃ zq,zq=hh188.size:=⟨_,rfl⟩
      obtain ⟨h196,e197⟩:∃ zq,zq=hh188.push (.cells #[(vI 0),(vI 0)] 49 (0,0)):=⟨_,rfl⟩
      have f198:=push_new e197
      rw [← eb195] at f198
      have n199:b194 ≠ b1:=by have:=row_lt f191; omega
      have n200:b194 ≠ b9:=by have:=row_lt f192; omega
      have x201:Ext hh188 h196:=by rw [e197]; exact Ext.push _ _
      have o202:h.size≤b194:=by have:=x193.size; omega
      have f203:=x201 _ _ f191
      have f204:=x201 _ _ f192
      have x205:=x193.trans x201
      obtain ⟨h206,e207⟩:∃ zq,zq=h196.setIfInBounds b194 (.cells #[(vI (agT s.tr s.bg s.d now)),(vI (agS s.tr s.bg s.d now))] 49 (0,0)):=⟨_,rfl⟩
      have f208:=set_same e207 f198
      have f209:=set_other e207 f203 n199
      have f210:=set_other e207 f204 n200
      have x211:=Ext.setNew x205 e207 o202
      rcases Bool.eq_false_or_eq_true ((agB s.tr s.bg s.d now)) with c212 | c212
      ·obtain ⟨h213,e214⟩:∃ zq,zq=h206.setIfInBounds b1 (.cells #[(vS s.d.name),(vI (s.d.rt)),(vI (s.d.dl)),(Value.slice sa (s.d.xs.length) (cp)),(vI (s.st)),(vI (s.ix)),(vB s.cn),(vI (agT s.tr s.bg s.d now)),(vI (agS s.tr s.bg s.d now)),(vI (s.er))] 51 (0,0)):=⟨_,rfl⟩
       have f215:=set_same e214 f209
       have f216:=set_other e214 f210 n14.symm
       have x217:=Ext.setNew x211 e214 o7
       obtain ⟨h218,e219⟩:∃ zq,zq=h213.setIfInBounds b9 (.cells #[(vS s.d.name),(vI (s.d.rt)),(vI (s.d.dl)),(Value.slice sa (s.d.xs.length) (cp)),(vI (s.st)),(vI (s.ix)),(vB s.cn),(vI (agT s.tr s.bg s.d now)),(vI (agS s.tr s.bg s.d now)),(vI (s.er))] 51 (0,0)):=⟨_,rfl⟩
       have f220:=set_same e219 f216
       have x221:=Ext.setNew x217 e219 o16
       have e222:(rfwdS s res now)=((s.st),(s.ix),(agT s.tr s.bg s.d now),(agS s.tr s.bg s.d now),(s.er)):=by unfold rfwdS; rw [if_neg c25,if_neg c95,if_pos c164,if_neg (Bool.eq_false_iff.1 c166),if_neg (Bool.eq_false_iff.1 c177),if_pos c212]
       exact hCall_ev [evA 0 0 eb2 e4,evA 0 1 eb10 e12,evL 1 1 7 agg49 size49 f17,evL 1 3 0 agg31 size31 f17,evF 1 5 sn20,eqF 2 1 34 c25,eqF 2 4 34 c95,eqT 2 8 34 c164,neT 3 1 34 c165,evCb 7 1 6 agg4 f22 c166,evM 9 0 c177,evL 12 1 7 agg49 size49 f22,evL 12 3 0 agg31 size31 f22,evF 12 5 sn189,evA 12 10 eb195 e197,evUw 12 11 size49 f198 e207,evM 13 0 c212,evLw 15 0 agg49 size49 f208,evU 15 2 7 size49 f209 e214,evLw 16 0 agg51 size51 f215,evUw 16 1 size51 f216 e219] [evLw 0 0 agg51 size51 f220] (vA #[(vS s.d.name),(vI s.d.rt),(vI s.d.dl),(vL sa s.d.xs.length cp),(vI s.st),(vI s.ix),(vB s.cn),(vI (agT s.tr s.bg s.d now)),(vI (agS s.tr s.bg s.d now)),(vI s.er)]) h218 ⟨by rw [e222],x221⟩
      ·obtain ⟨_,hh223,sn224,rfl,x225⟩:=rtoS_ok h206 s _ _ (hl.keep fun b r _ q=>x211 b r q) (by omega) 3 (s.ix) (res) 
       have f226:=x225 _ _ f210
       have x227:=x211.trans x225
       obtain ⟨h228,e229⟩:∃ zq,zq=hh223.setIfInBounds b9 (.cells #[(vS s.d.name),(vI (s.d.rt)),(vI (s.d.dl)),(Value.slice sa (s.d.xs.length) (cp)),(vI 3),(vI (s.ix)),(vB s.cn),(vI 0),(vI (s.bg)),(vI (res))] 51 (0,0)):=⟨_,rfl⟩
       have f230:=set_same e229 f226
       have x231:=Ext.setNew x227 e229 o16
       have e232:(rfwdS s res now)=(3,(s.ix),0,(s.bg),(res)):=by unfold rfwdS; rw [if_neg c25,if_neg c95,if_pos c164,if_neg (Bool.eq_false_iff.1 c166),if_neg (Bool.eq_false_iff.1 c177),if_neg (Bool.eq_false_iff.1 c212)]
       exact hCall_ev [evA 0 0 eb2 e4,evA 0 1 eb10 e12,evL 1 1 7 agg49 size49 f17,evL 1 3 0 agg31 size31 f17,evF 1 5 sn20,eqF 2 1 34 c25,eqF 2 4 34 c95,eqT 2 8 34 c164,neT 3 1 34 c165,evCb 7 1 6 agg4 f22 c166,evM 9 0 c177,evL 12 1 7 agg49 size49 f22,evL 12 3 0 agg31 size31 f22,evF 12 5 sn189,evA 12 10 eb195 e197,evUw 12 11 size49 f198 e207,evM 13 0 c212,evLw 14 0 agg51 size51 f209,evC 14 2 5 agg3 f209,evF 14 4 sn224,evUw 14 5 size51 f226 e229] [evLw 0 0 agg51 size51 f230] (vA #[(vS s.d.name),(vI s.d.rt),(vI s.d.dl),(vL sa s.d.xs.length cp),(vI 3),(vI s.ix),(vB s.cn),(vI 0),(vI s.bg),(vI res)]) h228 ⟨by rw [e232],x231⟩
   ·by_cases c233:((res):Int)=0
    ·rcases Bool.eq_false_or_eq_true (s.cn) with c234 | c234
     ·obtain ⟨_,hh235,sn236,rfl,x237⟩:=rtoS_ok hh19 s _ _ (hl.keep fun b r _ q=>x24 b r q) (by omega) 3 (s.ix) 9 
      have f238:=x237 _ _ f23
      have x239:=x24.trans x237
      obtain ⟨h240,e241⟩:∃ zq,zq=hh235.setIfInBounds b9 (.cells #[(vS s.d.name),(vI (s.d.rt)),(vI (s.d.dl)),(Value.slice sa (s.d.xs.length) (cp)),(vI 3),(vI (s.ix)),(vB s.cn),(vI 0),(vI (s.bg)),(vI 9)] 51 (0,0)):=⟨_,rfl⟩
      have f242:=set_same e241 f238
      have x243:=Ext.setNew x239 e241 o16
      have e244:(rfwdS s res now)=(3,(s.ix),0,(s.bg),9):=by unfold rfwdS; rw [if_neg c25,if_neg c95,if_neg c164,if_pos c233,if_pos c234]
      exact hCall_ev [evA 0 0 eb2 e4,evA 0 1 eb10 e12,evL 1 1 7 agg49 size49 f17,evL 1 3 0 agg31 size31 f17,evF 1 5 sn20,eqF 2 1 34 c25,eqF 2 4 34 c95,eqF 2 8 34 c164,neF 3 1 34 c233,evCb 7 1 6 agg4 f22 c234,evLw 8 0 agg51 size51 f22,evC 8 2 5 agg3 f22,evF 8 3 sn236,evUw 8 4 size51 f238 e241] [evLw 0 0 agg51 size51 f242] (vA #[(vS s.d.name),(vI s.d.rt),(vI s.d.dl),(vL sa s.d.xs.length cp),(vI 3),(vI s.ix),(vB s.cn),(vI 0),(vI s.bg),(vI 9)]) h240 ⟨by rw [e244],x243⟩
     ·rcases Bool.eq_false_or_eq_true ((lateM s.tr s.bg s.d now)) with c245 | c245
      ·obtain ⟨_,hh246,sn247,rfl,x248⟩:=rtoS_ok hh19 s _ _ (hl.keep fun b r _ q=>x24 b r q) (by omega) 3 (s.ix) 11 
       have f249:=x248 _ _ f23
       have x250:=x24.trans x248
       obtain ⟨h251,e252⟩:∃ zq,zq=hh246.setIfInBounds b9 (.cells #[(vS s.d.name),(vI (s.d.rt)),(vI (s.d.dl)),(Value.slice sa (s.d.xs.length) (cp)),(vI 3),(vI (s.ix)),(vB s.cn),(vI 0),(vI (s.bg)),(vI 11)] 51 (0,0)):=⟨_,rfl⟩
       have f253:=set_same e252 f249
       have x254:=Ext.setNew x250 e252 o16
       have e255:(rfwdS s res now)=(3,(s.ix),0,(s.bg),11):=by unfold rfwdS; rw [if_neg c25,if_neg c95,if_neg c164,if_pos c233,if_neg (Bool.eq_false_iff.1 c234),if_pos c245]
       exact hCall_ev [evA 0 0 eb2 e4,evA 0 1 eb10 e12,evL 1 1 7 agg49 size49 f17,evL 1 3 0 agg31 size31 f17,evF 1 5 sn20,eqF 2 1 34 c25,eqF 2 4 34 c95,eqF 2 8 34 c164,neF 3 1 34 c233,evCb 7 1 6 agg4 f22 c234,evM 9 0 c245,evLw 10 0 agg51 size51 f22,evC 10 2 5 agg3 f22,evF 10 3 sn247,evUw 10 4 size51 f249 e252] [evLw 0 0 agg51 size51 f253] (vA #[(vS s.d.name),(vI s.d.rt),(vI s.d.dl),(vL sa s.d.xs.length cp),(vI 3),(vI s.ix),(vB s.cn),(vI 0),(vI s.bg),(vI 11)]) h251 ⟨by rw [e255],x254⟩
      ·by_cases c256:((s.ix):Int) < (((s.d.xs.length:Nat)) - 1)
       ·obtain ⟨_,hh257,sn258,rfl,x259⟩:=rtoS_ok hh19 s _ _ (hl.keep fun b r _ q=>x24 b r q) (by omega) 1 ((s.ix) + 1) 0 
        have f260:=x259 _ _ f23
        have x261:=x24.trans x259
        obtain ⟨h262,e263⟩:∃ zq,zq=hh257.setIfInBounds b9 (.cells #[(vS s.d.name),(vI (s.d.rt)),(vI (s.d.dl)),(Value.slice sa (s.d.xs.length) (cp)),(vI 1),(vI ((s.ix) + 1)),(vB s.cn),(vI 0),(vI (s.bg)),(vI 0)] 51 (0,0)):=⟨_,rfl⟩
        have f264:=set_same e263 f260
        have x265:=Ext.setNew x261 e263 o16
        have e266:(rfwdS s res now)=(1,((s.ix) + 1),0,(s.bg),0):=by unfold rfwdS; rw [if_neg c25,if_neg c95,if_neg c164,if_pos c233,if_neg (Bool.eq_false_iff.1 c234),if_neg (Bool.eq_false_iff.1 c245),if_pos c256]
        exact hCall_ev [evA 0 0 eb2 e4,evA 0 1 eb10 e12,evL 1 1 7 agg49 size49 f17,evL 1 3 0 agg31 size31 f17,evF 1 5 sn20,eqF 2 1 34 c25,eqF 2 4 34 c95,eqF 2 8 34 c164,neF 3 1 34 c233,evCb 7 1 6 agg4 f22 c234,evM 9 0 c245,evC 17 1 5 agg3 f22,evC 17 4 3 agg29 f22,evV 17 6 (vI (((s.d.xs.length:Nat)) - 1)) (show binA Tryz.prog .sub 3 (vI ((s.d.xs.length:Nat))) (vI 1)=some (vI (((s.d.xs.length:Nat)) - 1)) from sub_i64 (by omega) (by omega)),ltT 17 7 3 c256,evLw 18 0 agg51 size51 f22,evC 18 2 5 agg3 f22,evV 18 3 (vI ((s.ix) + 1)) (show binA Tryz.prog .add 3 (vI s.ix) (vI 1)=some (vI ((s.ix) + 1)) from add_i64 (by omega) (by omega)),evF 18 4 sn258,evUw 18 5 size51 f260 e263] [evLw 0 0 agg51 size51 f264] (vA #[(vS s.d.name),(vI s.d.rt),(vI s.d.dl),(vL sa s.d.xs.length cp),(vI 1),(vI ((s.ix) + 1)),(vB s.cn),(vI 0),(vI s.bg),(vI 0)]) h262 ⟨by rw [e266],x265⟩
       ·obtain ⟨_,hh267,sn268,rfl,x269⟩:=rtoS_ok hh19 s _ _ (hl.keep fun b r _ q=>x24 b r q) (by omega) 2 0 0 
        have f270:=x269 _ _ f23
        have x271:=x24.trans x269
        obtain ⟨h272,e273⟩:∃ zq,zq=hh267.setIfInBounds b9 (.cells #[(vS s.d.name),(vI (s.d.rt)),(vI (s.d.dl)),(Value.slice sa (s.d.xs.length) (cp)),(vI 2),(vI 0),(vB s.cn),(vI 0),(vI (s.bg)),(vI 0)] 51 (0,0)):=⟨_,rfl⟩
        have f274:=set_same e273 f270
        have x275:=Ext.setNew x271 e273 o16
        have e276:(rfwdS s res now)=(2,0,0,(s.bg),0):=by unfold rfwdS; rw [if_neg c25,if_neg c95,if_neg c164,if_pos c233,if_neg (Bool.eq_false_iff.1 c234),if_neg (Bool.eq_false_iff.1 c245),if_neg c256]
        exact hCall_ev [evA 0 0 eb2 e4,evA 0 1 eb10 e12,evL 1 1 7 agg49 size49 f17,evL 1 3 0 agg31 size31 f17,evF 1 5 sn20,eqF 2 1 34 c25,eqF 2 4 34 c95,eqF 2 8 34 c164,neF 3 1 34 c233,evCb 7 1 6 agg4 f22 c234,evM 9 0 c245,evC 17 1 5 agg3 f22,evC 17 4 3 agg29 f22,evV 17 6 (vI (((s.d.xs.length:Nat)) - 1)) (show binA Tryz.prog .sub 3 (vI ((s.d.xs.length:Nat))) (vI 1)=some (vI (((s.d.xs.length:Nat)) - 1)) from sub_i64 (by omega) (by omega)),ltF 17 7 3 c256,evLw 19 0 agg51 size51 f22,evF 19 1 sn268,evUw 19 2 size51 f270 e273] [evLw 0 0 agg51 size51 f274] (vA #[(vS s.d.name),(vI s.d.rt),(vI s.d.dl),(vL sa s.d.xs.length cp),(vI 2),(vI 0),(vB s.cn),(vI 0),(vI s.bg),(vI 0)]) h272 ⟨by rw [e276],x275⟩
    ·by_cases c277:((s.ix):Int)=0
     ·obtain ⟨_,hh278,sn279,rfl,x280⟩:=rtoS_ok hh19 s _ _ (hl.keep fun b r _ q=>x24 b r q) (by omega) 5 0 (res) 
      have f281:=x280 _ _ f23
      have x282:=x24.trans x280
      obtain ⟨h283,e284⟩:∃ zq,zq=hh278.setIfInBounds b9 (.cells #[(vS s.d.name),(vI (s.d.rt)),(vI (s.d.dl)),(Value.slice sa (s.d.xs.length) (cp)),(vI 5),(vI 0),(vB s.cn),(vI 0),(vI (s.bg)),(vI (res))] 51 (0,0)):=⟨_,rfl⟩
      have f285:=set_same e284 f281
      have x286:=Ext.setNew x282 e284 o16
      have e287:(rfwdS s res now)=(5,0,0,(s.bg),(res)):=by unfold rfwdS; rw [if_neg c25,if_neg c95,if_neg c164,if_neg c233,if_pos c277]
      exact hCall_ev [evA 0 0 eb2 e4,evA 0 1 eb10 e12,evL 1 1 7 agg49 size49 f17,evL 1 3 0 agg31 size31 f17,evF 1 5 sn20,eqF 2 1 34 c25,eqF 2 4 34 c95,eqF 2 8 34 c164,neT 3 1 34 c233,evC 4 1 5 agg3 f22,eqT 4 2 3 c277,evLw 5 0 agg51 size51 f22,evF 5 2 sn279,evUw 5 3 size51 f281 e284] [evLw 0 0 agg51 size51 f285] (vA #[(vS s.d.name),(vI s.d.rt),(vI s.d.dl),(vL sa s.d.xs.length cp),(vI 5),(vI 0),(vB s.cn),(vI 0),(vI s.bg),(vI res)]) h283 ⟨by rw [e287],x286⟩
     ·obtain ⟨_,hh288,sn289,rfl,x290⟩:=rtoS_ok hh19 s _ _ (hl.keep fun b r _ q=>x24 b r q) (by omega) 3 ((s.ix) - 1) (res) 
      have f291:=x290 _ _ f23
      have x292:=x24.trans x290
      obtain ⟨h293,e294⟩:∃ zq,zq=hh288.setIfInBounds b9 (.cells #[(vS s.d.name),(vI (s.d.rt)),(vI (s.d.dl)),(Value.slice sa (s.d.xs.length) (cp)),(vI 3),(vI ((s.ix) - 1)),(vB s.cn),(vI 0),(vI (s.bg)),(vI (res))] 51 (0,0)):=⟨_,rfl⟩
      have f295:=set_same e294 f291
      have x296:=Ext.setNew x292 e294 o16
      have e297:(rfwdS s res now)=(3,((s.ix) - 1),0,(s.bg),(res)):=by unfold rfwdS; rw [if_neg c25,if_neg c95,if_neg c164,if_neg c233,if_neg c277]
      exact hCall_ev [evA 0 0 eb2 e4,evA 0 1 eb10 e12,evL 1 1 7 agg49 size49 f17,evL 1 3 0 agg31 size31 f17,evF 1 5 sn20,eqF 2 1 34 c25,eqF 2 4 34 c95,eqF 2 8 34 c164,neT 3 1 34 c233,evC 4 1 5 agg3 f22,eqF 4 2 3 c277,evLw 6 0 agg51 size51 f22,evC 6 2 5 agg3 f22,evV 6 3 (vI ((s.ix) - 1)) (show binA Tryz.prog .sub 3 (vI s.ix) (vI 1)=some (vI ((s.ix) - 1)) from sub_i64 (by omega) (by omega)),evF 6 5 sn289,evUw 6 6 size51 f291 e294] [evLw 0 0 agg51 size51 f295] (vA #[(vS s.d.name),(vI s.d.rt),(vI s.d.dl),(vL sa s.d.xs.length cp),(vI 3),(vI ((s.ix) - 1)),(vB s.cn),(vI 0),(vI s.bg),(vI res)]) h293 ⟨by rw [e297],x296⟩
theorem rfwdS_eq (s:SagaM) (res:Int) (now:Int):rfwdS s res now=fwdS s res now:=by
 unfold rfwdS fwdS
 rw [amE_eq]
 simp only [decide_eq_true_eq]
 repeat' split
 all_goals first | rfl | (exfalso; omega) | (simp_all; done)
theorem rfwdS_can (h:Heap) (s:SagaM) (sa:Option Addr) (cp:Nat) (hl:LAt h stepc 2 s.d.xs (.slice sa s.d.xs.length cp)) (hlen:s.d.xs.length≤9223372036854775807) (hnm:s.d.name.size≤9223372036854775807) (hks:∀ x ∈ s.d.xs,x.key.size≤9223372036854775807) (res:Int) (now:Int) (hok:chkS s=0):WCall Tryz.prog 95 #[(Value.agg #[(vS s.d.name),(vI (s.d.rt)),(vI (s.d.dl)),(Value.slice sa (s.d.xs.length) (cp)),(vI (s.st)),(vI (s.ix)),(vB s.cn),(vI (s.tr)),(vI (s.bg)),(vI (s.er))]),(vI (res)),(vI (now))] h (fun v h1=>v=(Value.agg #[(vS s.d.name),(vI (s.d.rt)),(vI (s.d.dl)),(Value.slice sa (s.d.xs.length) (cp)),(vI ((fwdS s res now).1)),(vI ((fwdS s res now).2.1)),(vB s.cn),(vI ((fwdS s res now).2.2.1)),(vI ((fwdS s res now).2.2.2.1)),(vI ((fwdS s res now).2.2.2.2))])∧Ext h h1):=by
 have q:=rfwdS_ok h s sa cp hl hlen hnm hks res now hok
 rw [rfwdS_eq] at q
 exact q
end C29
