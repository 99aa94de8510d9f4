/- Sagas: the beginning, cancelling. -/
import Derived.Test.YtjkcadbblgefdaaGreatDoorMb
import Derived.KernelRfl
open Go Go.AM Go.Proofs
namespace C29
theorem agg129:isAggA Tryz.prog 129=some false:=by kernel_rfl
theorem size4:(Tryz.prog.info? 4).map (·.size)=some 1:=by kernel_rfl
theorem size29:(Tryz.prog.info? 29).map (·.size)=some 1:=by kernel_rfl
theorem sizeb67:(Tryz.prog.info? 67).map (fun i=>(i.size,i.bytes))=some (2,24):=by kernel_rfl
theorem zero67:zeroA Tryz.prog 67=some (Value.agg #[(Value.string .empty),(Value.int .i64 0)]):=by kernel_rfl
set_option maxHeartbeats 4000000 in
theorem clone_steps_nil (h:Heap) :WCall Tryz.prog 118 #[(Value.slice none 0 0)] h (fun v h1=>v=.slice none 0 0∧Ext h h1):=by
 exact hCall_ev [] [] (vL none 0 0) h ⟨rfl,(Ext.refl h)⟩
set_option maxHeartbeats 4000000 in
theorem clone_steps_some (h:Heap) (xs:List StepM) (a:Addr) (cp:Nat) (hl:SliceAt h stepc 2 xs (.slice (some a) xs.length cp)) (hlen:xs.length≤1048576):WCall Tryz.prog 118 #[(Value.slice (some a) (xs.length) (cp))] h (fun v h1=>∃ w cw,v=.slice w xs.length cw∧OwnAt h1 67 stepc xs v∧Ext h h1∧∀ b,blk v b→h.size≤b):=by
 obtain ⟨b1,eb2⟩:∃ zq,zq=h.size:=⟨_,rfl⟩
 obtain ⟨h3,e4⟩:∃ zq,zq=h.push (.cells #[] 67 (0,0)):=⟨_,rfl⟩
 have f5:=push_new e4
 rw [← eb2] at f5
 have x6:Ext h h3:=by rw [e4]; exact Ext.push _ _
 have o7:h.size≤b1:=by have:=(Ext.refl h).size; omega
 have p8:=hl.keep fun b r _ q=>x6 b r q
 have x9:=(Ext.refl h).trans x6
 obtain ⟨w10,h11,e12,p13,x14,n15⟩:=own_clone und29 sizeb67 zero67 rfl (by decide) stepc_size (ys:=xs) f5 p8 (by omega) (by unfold maxLen; omega)
 obtain ⟨a16,c17,rfl⟩:=(p13.slice stepc_size).len
 have z18:b1 < h3.size:=row_lt f5
 have n19:∀ zz,blk (Value.slice a16 (xs.length) (c17)) zz→zz=b1 ∨ h3.size≤zz:=fun zz hz=>by rcases n15 zz hz with e | e <;> omega
 have o20:∀ zz,blk (Value.slice a16 (xs.length) (c17)) zz→h.size≤zz:=fun zz hz=>by have:=o7; have:=x9.size; rcases n19 zz hz with g | g <;> omega
 have x21:=x9.trans x14
 exact hCall_ev [evS 3 0 0 eb2 e4,evP 3 2 e12] [] (vL a16 xs.length c17) h11 ⟨_,_,rfl,p13,x21,o20⟩
theorem clone_steps (h:Heap) (xs:List StepM) (sa:Option Addr) (cp:Nat) (hl:SliceAt h stepc 2 xs (.slice sa xs.length cp)) (hlen:xs.length≤1048576):WCall Tryz.prog 118 #[.slice sa xs.length cp] h (fun v h1=>∃ w cw,v=.slice w xs.length cw∧OwnAt h1 67 stepc xs v∧Ext h h1∧∀ b,blk v b→h.size≤b):=by
 rcases sa with _ | a
 ·obtain ⟨e0,e1,e2⟩:=SliceAt_none hl
  subst e2; subst e1
  exact (clone_steps_nil h).mono fun v h1 q=>⟨none,0,q.1,.inl ⟨q.1,rfl⟩,q.2,fun b hb=>by rw [q.1] at hb; exact hb.elim⟩
 ·exact clone_steps_some h xs a cp hl hlen
set_option maxHeartbeats 4000000 in
theorem copyd_ok (h:Heap) (d:DefM) (sa:Option Addr) (cp:Nat) (hl:LAt h stepc 2 d.xs (.slice sa d.xs.length cp)) (hlen:d.xs.length≤1048576):WCall Tryz.prog 82 #[(Value.agg #[(vS d.name),(vI (d.rt)),(vI (d.dl)),(Value.slice sa (d.xs.length) (cp))])] h (fun v h1=>∃ w cw,v=.agg #[(vS d.name),(vI (d.rt)),(vI (d.dl)),(Value.slice w (d.xs.length) (cw))]∧OwnAt h1 67 stepc d.xs (.slice w d.xs.length cw)∧Ext h h1∧∀ b,blk (.slice w d.xs.length cw) b→h.size≤b):=by
 obtain ⟨b1,eb2⟩:∃ zq,zq=h.size:=⟨_,rfl⟩
 obtain ⟨h3,e4⟩:∃ zq,zq=h.push (.cells #[(vS d.name),(vI (d.rt)),(vI (d.dl)),(Value.slice sa (d.xs.length) (cp))] 31 (0,0)):=⟨_,rfl⟩
 have f5:=push_new e4
 rw [← eb2] at f5
 have x6:Ext h h3:=by rw [e4]; exact Ext.push _ _
 have o7:h.size≤b1:=by have:=(Ext.refl h).size; omega
 have x8:=(Ext.refl h).trans x6
 obtain ⟨b9,eb10⟩:∃ zq,zq=h3.size:=⟨_,rfl⟩
 obtain ⟨h11,e12⟩:∃ zq,zq=h3.push (.cells #[(vS .empty),(vI 0),(vI 0),(Value.slice none 0 0)] 31 (0,0)):=⟨_,rfl⟩
 have f13:=push_new e12
 rw [← eb10] at f13
 have n14:b9 ≠ b1:=by have:=row_lt f5; omega
 have x15:Ext h3 h11:=by rw [e12]; exact Ext.push _ _
 have o16:h.size≤b9:=by have:=x8.size; omega
 have f17:=x15 _ _ f5
 have x18:=x8.trans x15
 obtain ⟨_,hh19,sn20,w21,c22,rfl,o23,x24,b25⟩:=clone_steps h11 d.xs _ _ ((hl.keep fun b r _ q=>x18 b r q).slice stepc_size) (by omega)
 have f26:=x24 _ _ f17
 have f27:=x24 _ _ f13
 have x28:=x18.trans x24
 have z29:h.size≤h11.size:=x18.size
 have n30:∀ zz,blk (Value.slice w21 (d.xs.length) (c22)) zz→¬ zz=b1:=fun zz hz ez=>by have:=b25 zz hz; have:=row_lt f17; omega
 have n31:∀ zz,blk (Value.slice w21 (d.xs.length) (c22)) zz→¬ zz=b9:=fun zz hz ez=>by have:=b25 zz hz; have:=row_lt f13; omega
 have o32:∀ zz,blk (Value.slice w21 (d.xs.length) (c22)) zz→h.size≤zz:=fun zz hz=>by have:=b25 zz hz; omega
 obtain ⟨h33,e34⟩:∃ zq,zq=hh19.setIfInBounds b1 (.cells #[(vS d.name),(vI (d.rt)),(vI (d.dl)),(Value.slice w21 (d.xs.length) (c22))] 31 (0,0)):=⟨_,rfl⟩
 have f35:=set_same e34 f26
 have f36:=set_other e34 f27 n14.symm
 have p37:=o23.keep fun b r hb q=>(Chg.set e34).same b r q (n30 b hb)
 have x38:=Ext.setNew x28 e34 o7
 obtain ⟨h39,e40⟩:∃ zq,zq=h33.setIfInBounds b9 (.cells #[(vS d.name),(vI (d.rt)),(vI (d.dl)),(Value.slice w21 (d.xs.length) (c22))] 31 (0,0)):=⟨_,rfl⟩
 have f41:=set_same e40 f36
 have p42:=p37.keep fun b r hb q=>(Chg.set e40).same b r q (n31 b hb)
 have x43:=Ext.setNew x38 e40 o16
 exact hCall_ev [evA 0 0 eb2 e4,evA 0 1 eb10 e12,evC 1 1 3 agg29 f17,evF 1 2 sn20,evT 1 4 3 size29 f26 e34,evLw 2 0 agg31 size31 f35,evUw 2 1 size31 f36 e40] [evLw 0 0 agg31 size31 f41] (vA #[(vS d.name),(vI d.rt),(vI d.dl),(vL w21 d.xs.length c22)]) h39 ⟨w21,c22,rfl,p42,x43,o32⟩
set_option maxHeartbeats 4000000 in
theorem copys_ok (h:Heap) (s:SagaM) (sa:Option Addr) (cp:Nat) (hl:LAt h stepc 2 s.d.xs (.slice sa s.d.xs.length cp)) (hlen:s.d.xs.length≤1048576):WCall Tryz.prog 65 #[(Value.agg #[(vS s.d.name),(vI (s.d.rt)),(vI (s.d.dl)),(Value.slice sa (s.d.xs.length) (cp)),(vI (s.st)),(vI (s.ix)),(vB s.cn),(vI (s.tr)),(vI (s.bg)),(vI (s.er))])] h (fun v h1=>∃ w cw,v=.agg #[(vS s.d.name),(vI (s.d.rt)),(vI (s.d.dl)),(Value.slice w (s.d.xs.length) (cw)),(vI (s.st)),(vI (s.ix)),(vB s.cn),(vI (s.tr)),(vI (s.bg)),(vI (s.er))]∧OwnAt h1 67 stepc s.d.xs (.slice w s.d.xs.length cw)∧Ext h h1∧∀ b,blk (.slice w s.d.xs.length cw) b→h.size≤b):=by
 obtain ⟨b1,eb2⟩:∃ zq,zq=h.size:=⟨_,rfl⟩
 obtain ⟨h3,e4⟩:∃ zq,zq=h.push (.cells #[(vS s.d.name),(vI (s.d.rt)),(vI (s.d.dl)),(Value.slice sa (s.d.xs.length) (cp)),(vI (s.st)),(vI (s.ix)),(vB s.cn),(vI (s.tr)),(vI (s.bg)),(vI (s.er))] 38 (0,0)):=⟨_,rfl⟩
 have f5:=push_new e4
 rw [← eb2] at f5
 have x6:Ext h h3:=by rw [e4]; exact Ext.push _ _
 have o7:h.size≤b1:=by have:=(Ext.refl h).size; omega
 have x8:=(Ext.refl h).trans x6
 obtain ⟨b9,eb10⟩:∃ zq,zq=h3.size:=⟨_,rfl⟩
 obtain ⟨h11,e12⟩:∃ zq,zq=h3.push (.cells #[(vS .empty),(vI 0),(vI 0),(Value.slice none 0 0),(vI 0),(vI 0),(vB false),(vI 0),(vI 0),(vI 0)] 38 (0,0)):=⟨_,rfl⟩
 have f13:=push_new e12
 rw [← eb10] at f13
 have n14:b9 ≠ b1:=by have:=row_lt f5; omega
 have x15:Ext h3 h11:=by rw [e12]; exact Ext.push _ _
 have o16:h.size≤b9:=by have:=x8.size; omega
 have f17:=x15 _ _ f5
 have x18:=x8.trans x15
 obtain ⟨_,h19,s20,w21,c22,rfl,o23,x24,b25⟩:=copyd_ok h11 s.d _ _ (hl.keep fun b r _ q=>x18 b r q) (by omega)
 have f26:=x24 _ _ f17
 have f27:=x24 _ _ f13
 have x28:=x18.trans x24
 have z29:h.size≤h11.size:=x18.size
 have n30:∀ zz,blk (Value.slice w21 (s.d.xs.length) (c22)) zz→¬ zz=b1:=fun zz hz ez=>by have:=b25 zz hz; have:=row_lt f17; omega
 have n31:∀ zz,blk (Value.slice w21 (s.d.xs.length) (c22)) zz→¬ zz=b9:=fun zz hz ez=>by have:=b25 zz hz; have:=row_lt f13; omega
 have o32:∀ zz,blk (Value.slice w21 (s.d.xs.length) (c22)) zz→h.size≤zz:=fun zz hz=>by have:=b25 zz hz; omega
 obtain ⟨h33,e34⟩:∃ zq,zq=h19.setIfInBounds b1 (.cells #[(vS s.d.name),(vI (s.d.rt)),(vI (s.d.dl)),(Value.slice w21 (s.d.xs.length) (c22)),(vI (s.st)),(vI (s.ix)),(vB s.cn),(vI (s.tr)),(vI (s.bg)),(vI (s.er))] 38 (0,0)):=⟨_,rfl⟩
 have f35:=set_same e34 f26
 have f36:=set_other e34 f27 n14.symm
 have p37:=o23.keep fun b r hb q=>(Chg.set e34).same b r q (n30 b hb)
 have x38:=Ext.setNew x28 e34 o7
 obtain ⟨h39,e40⟩:∃ zq,zq=h33.setIfInBounds b9 (.cells #[(vS s.d.name),(vI (s.d.rt)),(vI (s.d.dl)),(Value.slice w21 (s.d.xs.length) (c22)),(vI (s.st)),(vI (s.ix)),(vB s.cn),(vI (s.tr)),(vI (s.bg)),(vI (s.er))] 38 (0,0)):=⟨_,rfl⟩
 have f41:=set_same e40 f36
 have p42:=p37.keep fun b r hb q=>(Chg.set e40).same b r q (n31 b hb)
 have x43:=Ext.setNew x38 e40 o16
 exact hCall_ev [evA 0 0 eb2 e4,evA 0 1 eb10 e12,evL 1 1 0 agg31 size31 f17,evF 1 2 s20,evU 1 4 0 size31 f26 e34,evLw 2 0 agg38 size38 f35,evUw 2 1 size38 f36 e40] [evLw 0 0 agg38 size38 f41] (vA #[(vS s.d.name),(vI s.d.rt),(vI s.d.dl),(vL w21 s.d.xs.length c22),(vI s.st),(vI s.ix),(vB s.cn),(vI s.tr),(vI s.bg),(vI s.er)]) h39 ⟨w21,c22,rfl,p42,x43,o32⟩
def phS (st:Int):Int:=if st=1 then 1 else if st=2 then 3 else 2
theorem nextV_open {s:SagaM} (h:chkS s=0) (h4:s.st < 4):nextV s=(s.ix,phS s.st,true,0):=by
 unfold nextV phS; rw [if_pos h,if_pos h4]; repeat' split
 all_goals rfl
theorem nextV_done {s:SagaM} (h:chkS s=0) (h4:¬ s.st < 4):nextV s=(0,0,false,0):=by unfold nextV; rw [if_pos h,if_neg h4]
theorem nextV_bad {s:SagaM} (h:¬ chkS s=0):nextV s=(0,0,false,chkS s):=by unfold nextV; rw [if_neg h]
/-- The saga behind a result. -/
def nxtS (s:SagaM) (res now:Int):SagaM :=
 if s.st=1 then ⟨s.d,(fwdS s res now).1,(fwdS s res now).2.1,s.cn,(fwdS s res now).2.2.1,(fwdS s res now).2.2.2.1,(fwdS s res now).2.2.2.2⟩
 else if s.st=2 then ⟨s.d,(freS s res now).1,(freS s res now).2.1,s.cn,(freS s res now).2.2.1,s.bg,(freS s res now).2.2.2⟩
 else ⟨s.d,(undS s res now).1,(undS s res now).2.1,s.cn,(undS s res now).2.2,s.bg,s.er⟩
theorem nxtS_1 {s:SagaM} {res now:Int} (h:s.st=1):nxtS s res now=⟨s.d,(fwdS s res now).1,(fwdS s res now).2.1,s.cn,(fwdS s res now).2.2.1,(fwdS s res now).2.2.2.1,(fwdS s res now).2.2.2.2⟩:=if_pos h
theorem nxtS_2 {s:SagaM} {res now:Int} (h:s.st=2):nxtS s res now=⟨s.d,(freS s res now).1,(freS s res now).2.1,s.cn,(freS s res now).2.2.1,s.bg,(freS s res now).2.2.2⟩:=by unfold nxtS; rw [if_neg (by omega),if_pos h]
theorem nxtS_3 {s:SagaM} {res now:Int} (h:s.st=3):nxtS s res now=⟨s.d,(undS s res now).1,(undS s res now).2.1,s.cn,(undS s res now).2.2,s.bg,s.er⟩:=by unfold nxtS; rw [if_neg (by omega),if_neg (by omega)]
theorem nxtS_d (s:SagaM) (res now:Int):(nxtS s res now).d=s.d:=by unfold nxtS; split; rfl; split <;> rfl
def resE (s:SagaM) (e1 e2 e3 res now:Int):Int:=if chkS s=0 then (if (0≤res∧res≤18)∧0≤now∧now≤2147483648 then (if s.st < 4 then (if e1=0∧e2=s.ix∧e3=phS s.st then 0 else 8) else 9) else 2) else chkS s
def canE (s:SagaM):Int:=if chkS s=0 then (if s.st=1 then 0 else 9) else chkS s
def canS (s:SagaM):SagaM:={ s with cn:=true }
def staE (d:DefM) (n:Int):Int:=if defB d=true then (if 0≤n∧n≤2147483648 then 0 else 2) else 15
def staS (d:DefM) (n:Int):SagaM:=⟨d,1,0,false,0,n,0⟩
theorem bytes_beq (c c':ByteArray):(c == c')=decide (c=c'):=by
 cases c with | mk a=>cases c' with | mk b =>
 have:(ByteArray.mk a == ByteArray.mk b)=(a == b):=by
  show ByteArray.beq _ _=_
  unfold ByteArray.beq
  rfl
 rw [this]
 by_cases h:a=b <;> simp [h]
theorem int_beq (a b:Int):(a == b)=decide (a=b):=by by_cases h:a=b <;> simp [h]
theorem bool_beq (a b:Bool):(a == b)=decide (a=b):=by cases a <;> cases b <;> rfl
theorem eq33 {a0 b0:Int} {a1 b1:Int} {a2 b2:Int}:eqA Tryz.prog 8 33 (.agg #[.int .i64 a0,.int .i64 a1,.int .i64 a2]) (.agg #[.int .i64 b0,.int .i64 b1,.int .i64 b2])=some (decide (a0=b0∧a1=b1∧a2=b2)):=by
 have e:eqA Tryz.prog 8 33 (.agg #[.int .i64 a0,.int .i64 a1,.int .i64 a2]) (.agg #[.int .i64 b0,.int .i64 b1,.int .i64 b2])=(match (some (a0 == b0):Option Bool) with | some true=>(match (some (a1 == b1):Option Bool) with | some true=>(match (some (a2 == b2):Option Bool) with | some true=>some true | some false=>some false | none=>none) | some false=>some false | none=>none) | some false=>some false | none=>none):=by kernel_rfl
 rw [e]
 simp only [int_beq,bytes_beq,bool_beq]
 by_cases h0:a0=b0 <;> by_cases h1:a1=b1 <;> by_cases h2:a2=b2 <;> simp [h0,h1,h2]
theorem cmp33_neq {a0 b0:Int} {a1 b1:Int} {a2 b2:Int} {r:Bool} (e:decide (¬ (a0=b0∧a1=b1∧a2=b2))=r):binA Tryz.prog .neq 33 (.agg #[.int .i64 a0,.int .i64 a1,.int .i64 a2]) (.agg #[.int .i64 b0,.int .i64 b1,.int .i64 b2])=some (.bool r):=by
 have k:binA Tryz.prog .neq 33 (.agg #[.int .i64 a0,.int .i64 a1,.int .i64 a2]) (.agg #[.int .i64 b0,.int .i64 b1,.int .i64 b2])=(eqA Tryz.prog 8 33 (.agg #[.int .i64 a0,.int .i64 a1,.int .i64 a2]) (.agg #[.int .i64 b0,.int .i64 b1,.int .i64 b2])).map (fun b=>.bool (!b)):=by kernel_rfl
 rw [k,eq33,← e]
 simp only [Option.map_some,decide_not]
set_option maxRecDepth 10000 in
set_option maxHeartbeats 4000000 in
theorem result_ok (h:Heap) (s:SagaM) (sa:Option Addr) (cp:Nat) (hl:LAt h stepc 2 s.d.xs (.slice sa s.d.xs.length cp)) (hlen:s.d.xs.length≤9223372036854775807) (e1 e2 e3 res now:Int) (hg0:h[0]?=some (.cells #[(vI 0),(vI 1),(vI 3),(vI 2)] 128 (0,0))) (hg1:h[1]?=some (.cells #[Value.nilFunc,(Value.func (.func 178) #[] #[]),(Value.func (.func 179) #[] #[]),(Value.func (.func 180) #[] #[])] 130 (0,0))):WCall Tryz.prog 44 #[(Value.agg #[(vS s.d.name),(vI (s.d.rt)),(vI (s.d.dl)),(Value.slice sa (s.d.xs.length) (cp)),(vI (s.st)),(vI (s.ix)),(vB s.cn),(vI (s.tr)),(vI (s.bg)),(vI (s.er))]),(Value.agg #[(vI (e1)),(vI (e2)),(vI (e3))]),(vI (res)),(vI (now))] h (fun v h1=>(¬ resE s e1 e2 e3 res now=0→v=.tuple #[(Value.agg #[(vS .empty),(vI 0),(vI 0),(Value.slice none 0 0),(vI 0),(vI 0),(vB false),(vI 0),(vI 0),(vI 0)]),.int .i64 (resE s e1 e2 e3 res now)])∧(resE s e1 e2 e3 res now=0→∃ w cw,v=.tuple #[(Value.agg #[(vS s.d.name),(vI (s.d.rt)),(vI (s.d.dl)),(Value.slice w (s.d.xs.length) (cw)),(vI ((nxtS s res now).st)),(vI ((nxtS s res now).ix)),(vB (nxtS s res now).cn),(vI ((nxtS s res now).tr)),(vI ((nxtS s res now).bg)),(vI ((nxtS s res now).er))]),.int .i64 0]∧OwnAt h1 67 stepc s.d.xs (.slice w s.d.xs.length cw)∧∀ b,blk (.slice w s.d.xs.length cw) b→h.size≤b)∧Ext h h1):=by
 obtain ⟨b1,eb2⟩:∃ zq,zq=h.size:=⟨_,rfl⟩
 obtain ⟨h3,e4⟩:∃ zq,zq=h.push (.cells #[(vS s.d.name),(vI (s.d.rt)),(vI (s.d.dl)),(Value.slice sa (s.d.xs.length) (cp)),(vI (s.st)),(vI (s.ix)),(vB s.cn),(vI (s.tr)),(vI (s.bg)),(vI (s.er))] 38 (0,0)):=⟨_,rfl⟩
 have f5:=push_new e4
 rw [← eb2] at f5
 have x6:Ext h h3:=by rw [e4]; exact Ext.push _ _
 have o7:h.size≤b1:=by have:=(Ext.refl h).size; omega
 have x8:=(Ext.refl h).trans x6
 obtain ⟨b9,eb10⟩:∃ zq,zq=h3.size:=⟨_,rfl⟩
 obtain ⟨h11,e12⟩:∃ zq,zq=h3.push (.cells #[(vI (e1)),(vI (e2)),(vI (e3))] 33 (0,0)):=⟨_,rfl⟩
 have f13:=push_new e12
 rw [← eb10] at f13
 have x14:Ext h3 h11:=by rw [e12]; exact Ext.push _ _
 have o15:h.size≤b9:=by have:=x8.size; omega
 have f17:=x14 _ _ f5
 have x18:=x8.trans x14
 obtain ⟨b19,eb20⟩:∃ zq,zq=h11.size:=⟨_,rfl⟩
 obtain ⟨h21,e22⟩:∃ zq,zq=h11.push (.cells #[(vS .empty),(vI 0),(vI 0),(Value.slice none 0 0),(vI 0),(vI 0),(vB false),(vI 0),(vI 0),(vI 0)] 38 (0,0)):=⟨_,rfl⟩
 have f23:=push_new e22
 rw [← eb20] at f23
 have x24:Ext h11 h21:=by rw [e22]; exact Ext.push _ _
 have o25:h.size≤b19:=by have:=x18.size; omega
 have f26:=x24 _ _ f17
 have f27:=x24 _ _ f13
 have x28:=x18.trans x24
 obtain ⟨_,h29,s30,rfl,x31⟩:=nextV_ok h21 s _ _ (hl.keep fun b r _ q=>x28 b r q) (by omega) (x28 _ _ hg0) (x28 _ _ hg1)
 have f33:=x31 _ _ f26
 have f34:=x31 _ _ f27
 have f35:=x31 _ _ f23
 have x36:=x28.trans x31
 by_cases c37:((chkS s):Int)=0
 ·obtain ⟨z1971d,z1971b,z1971o⟩:=chkS_zero c37
  have:=defB_of z1971d
  have:=budB_of z1971b
  have z1971i:=okI_of z1971o
  have:=z1971i.1
  by_cases c38:((s.st):Int) < 4
  ·obtain ⟨b39,eb40⟩:∃ zq,zq=h29.size:=⟨_,rfl⟩
   obtain ⟨h41,e42⟩:∃ zq,zq=h29.push (.cells #[(vI 0),(vI 0),(vI 0)] 33 (0,0)):=⟨_,rfl⟩
   have f43:=push_new e42
   rw [← eb40] at f43
   have n44:b39 ≠ b1:=by have:=row_lt f33; omega
   have n45:b39 ≠ b9:=by have:=row_lt f34; omega
   have n46:b39 ≠ b19:=by have:=row_lt f35; omega
   have x47:Ext h29 h41:=by rw [e42]; exact Ext.push _ _
   have o48:h.size≤b39:=by have:=x36.size; omega
   have f49:=x47 _ _ f33
   have f50:=x47 _ _ f34
   have f51:=x47 _ _ f35
   have x52:=x36.trans x47
   obtain ⟨h53,e54⟩:∃ zq,zq=h41.setIfInBounds b39 (.cells #[(vI 0),(vI (s.ix)),(vI (phS (s.st)))] 33 (0,0)):=⟨_,rfl⟩
   have f55:=set_same e54 f43
   have f56:=set_other e54 f49 n44
   have f57:=set_other e54 f50 n45
   have f58:=set_other e54 f51 n46
   have x59:=Ext.setNew x52 e54 o48
   by_cases c60:((res):Int) < 0
   ·obtain ⟨h61,e62⟩:∃ zq,zq=h53.setIfInBounds b19 (.cells #[(vS .empty),(vI 0),(vI 0),(Value.slice none 0 0),(vI 0),(vI 0),(vB false),(vI 0),(vI 0),(vI 0)] 38 (0,0)):=⟨_,rfl⟩
    have f63:=set_same e62 f58
    have x64:=Ext.setNew x59 e62 o25
    have ee:resE s e1 e2 e3 res now=2:=by unfold resE; rw [if_pos c37,if_neg (by omega)]
    exact hCall_ev [evA 0 0 eb2 e4,evA 0 1 eb10 e12,evA 0 2 eb20 e22,evLw 1 0 agg38 size38 f26,evF 1 1 (by rw [nextV_open c37 c38] at s30; exact s30),evA 1 6 eb40 e42,evUw 1 7 size33 f43 e54,ltT 4 1 34 c60,evUw 5 1 size38 f58 e62] [evLw 0 0 agg38 size38 f63,evR (vI 2)] (vT #[(vA #[(vS .empty),(vI 0),(vI 0),(vL none 0 0),(vI 0),(vI 0),(vB false),(vI 0),(vI 0),(vI 0)]),(vI 2)]) h61 ⟨fun _=>by rw [ee],fun w=>absurd (ee.symm.trans w) (by decide),x64⟩
   ·by_cases c65:(18:Int) < (res)
    ·obtain ⟨h66,e67⟩:∃ zq,zq=h53.setIfInBounds b19 (.cells #[(vS .empty),(vI 0),(vI 0),(Value.slice none 0 0),(vI 0),(vI 0),(vB false),(vI 0),(vI 0),(vI 0)] 38 (0,0)):=⟨_,rfl⟩
     have f68:=set_same e67 f58
     have x69:=Ext.setNew x59 e67 o25
     have ee:resE s e1 e2 e3 res now=2:=by unfold resE; rw [if_pos c37,if_neg (by omega)]
     exact hCall_ev [evA 0 0 eb2 e4,evA 0 1 eb10 e12,evA 0 2 eb20 e22,evLw 1 0 agg38 size38 f26,evF 1 1 (by rw [nextV_open c37 c38] at s30; exact s30),evA 1 6 eb40 e42,evUw 1 7 size33 f43 e54,ltF 4 1 34 c60,gtT 4 4 34 c65,evUw 5 1 size38 f58 e67] [evLw 0 0 agg38 size38 f68,evR (vI 2)] (vT #[(vA #[(vS .empty),(vI 0),(vI 0),(vL none 0 0),(vI 0),(vI 0),(vB false),(vI 0),(vI 0),(vI 0)]),(vI 2)]) h66 ⟨fun _=>by rw [ee],fun w=>absurd (ee.symm.trans w) (by decide),x69⟩
    ·by_cases c70:((now):Int) < 0
     ·obtain ⟨h71,e72⟩:∃ zq,zq=h53.setIfInBounds b19 (.cells #[(vS .empty),(vI 0),(vI 0),(Value.slice none 0 0),(vI 0),(vI 0),(vB false),(vI 0),(vI 0),(vI 0)] 38 (0,0)):=⟨_,rfl⟩
      have f73:=set_same e72 f58
      have x74:=Ext.setNew x59 e72 o25
      have ee:resE s e1 e2 e3 res now=2:=by unfold resE; rw [if_pos c37,if_neg (by omega)]
      exact hCall_ev [evA 0 0 eb2 e4,evA 0 1 eb10 e12,evA 0 2 eb20 e22,evLw 1 0 agg38 size38 f26,evF 1 1 (by rw [nextV_open c37 c38] at s30; exact s30),evA 1 6 eb40 e42,evUw 1 7 size33 f43 e54,ltF 4 1 34 c60,gtF 4 4 34 c65,ltT 4 8 3 c70,evUw 5 1 size38 f58 e72] [evLw 0 0 agg38 size38 f73,evR (vI 2)] (vT #[(vA #[(vS .empty),(vI 0),(vI 0),(vL none 0 0),(vI 0),(vI 0),(vB false),(vI 0),(vI 0),(vI 0)]),(vI 2)]) h71 ⟨fun _=>by rw [ee],fun w=>absurd (ee.symm.trans w) (by decide),x74⟩
     ·by_cases c75:(2147483648:Int) < (now)
      ·obtain ⟨h76,e77⟩:∃ zq,zq=h53.setIfInBounds b19 (.cells #[(vS .empty),(vI 0),(vI 0),(Value.slice none 0 0),(vI 0),(vI 0),(vB false),(vI 0),(vI 0),(vI 0)] 38 (0,0)):=⟨_,rfl⟩
       have f78:=set_same e77 f58
       have x79:=Ext.setNew x59 e77 o25
       have ee:resE s e1 e2 e3 res now=2:=by unfold resE; rw [if_pos c37,if_neg (by omega)]
       exact hCall_ev [evA 0 0 eb2 e4,evA 0 1 eb10 e12,evA 0 2 eb20 e22,evLw 1 0 agg38 size38 f26,evF 1 1 (by rw [nextV_open c37 c38] at s30; exact s30),evA 1 6 eb40 e42,evUw 1 7 size33 f43 e54,ltF 4 1 34 c60,gtF 4 4 34 c65,ltF 4 8 3 c70,gtT 4 12 3 c75,evUw 5 1 size38 f58 e77] [evLw 0 0 agg38 size38 f78,evR (vI 2)] (vT #[(vA #[(vS .empty),(vI 0),(vI 0),(vL none 0 0),(vI 0),(vI 0),(vB false),(vI 0),(vI 0),(vI 0)]),(vI 2)]) h76 ⟨fun _=>by rw [ee],fun w=>absurd (ee.symm.trans w) (by decide),x79⟩
      ·by_cases c80:(((e1):Int)=0∧((e2):Int)=(s.ix)∧((e3):Int)=(phS (s.st)))
       ·by_cases c81:((s.st):Int)=1
        ·obtain ⟨_,h82,s83,w84,c85,rfl,o86,x87,b88⟩:=copys_ok h53 s _ _ (hl.keep fun b r _ q=>x59 b r q) (by omega)
         have f89:=x87 _ _ f56
         have f90:=x87 _ _ f58
         have x91:=x59.trans x87
         have z92:h.size≤h53.size:=x59.size
         have n93:∀ zz,blk (Value.slice w84 (s.d.xs.length) (c85)) zz→¬ zz=b19:=fun zz hz ez=>by have:=b88 zz hz; have:=row_lt f58; omega
         have o94:∀ zz,blk (Value.slice w84 (s.d.xs.length) (c85)) zz→h.size≤zz:=fun zz hz=>by have:=b88 zz hz; omega
         obtain ⟨_,hh95,sn96,rfl,x97⟩:=fwdS_ok h82 s _ _ (OwnAt.lat o86 stepc_size (tsz_of size67)) (by omega) (res) (now) c37
         have f98:=x97 _ _ f90
         have p99:=o86.keep fun b r _ q=>x97 b r q
         have x100:=x91.trans x97
         obtain ⟨h101,e102⟩:∃ zq,zq=hh95.setIfInBounds b19 (.cells #[(vS s.d.name),(vI (s.d.rt)),(vI (s.d.dl)),(Value.slice w84 (s.d.xs.length) (c85)),(vI ((fwdS s (res) (now)).1)),(vI ((fwdS s (res) (now)).2.1)),(vB s.cn),(vI ((fwdS s (res) (now)).2.2.1)),(vI ((fwdS s (res) (now)).2.2.2.1)),(vI ((fwdS s (res) (now)).2.2.2.2))] 38 (0,0)):=⟨_,rfl⟩
         have f103:=set_same e102 f98
         have p104:=p99.keep fun b r hb q=>(Chg.set e102).same b r q (n93 b hb)
         have x105:=Ext.setNew x100 e102 o25
         have ee:resE s e1 e2 e3 res now=0:=by unfold resE; rw [if_pos c37,if_pos (by omega),if_pos (by omega),if_pos c80]
         exact hCall_ev [evA 0 0 eb2 e4,evA 0 1 eb10 e12,evA 0 2 eb20 e22,evLw 1 0 agg38 size38 f26,evF 1 1 (by rw [nextV_open c37 c38] at s30; exact s30),evA 1 6 eb40 e42,evUw 1 7 size33 f43 e54,ltF 4 1 34 c60,gtF 4 4 34 c65,ltF 4 8 3 c70,gtF 4 12 3 c75,evLw 8 0 agg33 size33 f57,evLw 8 1 agg33 size33 f55,evQ 8 2 (cmp33_neq (decide_eq_false (not_not_intro c80))),evC 10 1 4 agg3 f56,evV 10 2 (vP 1 1) (show indexAddrA Tryz.prog 130 (vP 1 0) (vI s.st)=some (vP 1 1) from by rw [c81]; kernel_rfl),evC 10 3 1 agg129 (x59 _ _ hg1),evLw 10 4 agg38 size38 f56,evF 10 5 s83,evC 99 0 1 agg129 (x91 _ _ hg1),evC 99 0 4 agg3 f89,evF 10 8 sn96,evUw 10 9 size38 f98 e102] [evLw 0 0 agg38 size38 f103,evR (vI 0)] (vT #[(vA #[(vS s.d.name),(vI s.d.rt),(vI s.d.dl),(vL w84 s.d.xs.length c85),(vI ((fwdS s (res) (now)).1)),(vI ((fwdS s (res) (now)).2.1)),(vB s.cn),(vI ((fwdS s (res) (now)).2.2.1)),(vI ((fwdS s (res) (now)).2.2.2.1)),(vI ((fwdS s (res) (now)).2.2.2.2))]),(vI 0)]) h101 ⟨fun w=>absurd ee w,fun _=>⟨w84,c85,by rw [nxtS_1 (by omega)],p104,o94⟩,x105⟩
        ·by_cases c106:((s.st):Int)=2
         ·obtain ⟨_,h107,s108,w109,c110,rfl,o111,x112,b113⟩:=copys_ok h53 s _ _ (hl.keep fun b r _ q=>x59 b r q) (by omega)
          have f114:=x112 _ _ f56
          have f115:=x112 _ _ f58
          have x116:=x59.trans x112
          have z117:h.size≤h53.size:=x59.size
          have n118:∀ zz,blk (Value.slice w109 (s.d.xs.length) (c110)) zz→¬ zz=b19:=fun zz hz ez=>by have:=b113 zz hz; have:=row_lt f58; omega
          have o119:∀ zz,blk (Value.slice w109 (s.d.xs.length) (c110)) zz→h.size≤zz:=fun zz hz=>by have:=b113 zz hz; omega
          obtain ⟨_,hh120,sn121,rfl,x122⟩:=freS_ok h107 s _ _ (OwnAt.lat o111 stepc_size (tsz_of size67)) (by omega) (res) (now) c37
          have f123:=x122 _ _ f115
          have p124:=o111.keep fun b r _ q=>x122 b r q
          have x125:=x116.trans x122
          obtain ⟨h126,e127⟩:∃ zq,zq=hh120.setIfInBounds b19 (.cells #[(vS s.d.name),(vI (s.d.rt)),(vI (s.d.dl)),(Value.slice w109 (s.d.xs.length) (c110)),(vI ((freS s (res) (now)).1)),(vI ((freS s (res) (now)).2.1)),(vB s.cn),(vI ((freS s (res) (now)).2.2.1)),(vI (s.bg)),(vI ((freS s (res) (now)).2.2.2))] 38 (0,0)):=⟨_,rfl⟩
          have f128:=set_same e127 f123
          have p129:=p124.keep fun b r hb q=>(Chg.set e127).same b r q (n118 b hb)
          have x130:=Ext.setNew x125 e127 o25
          have ee:resE s e1 e2 e3 res now=0:=by unfold resE; rw [if_pos c37,if_pos (by omega),if_pos (by omega),if_pos c80]
          exact hCall_ev [evA 0 0 eb2 e4,evA 0 1 eb10 e12,evA 0 2 eb20 e22,evLw 1 0 agg38 size38 f26,evF 1 1 (by rw [nextV_open c37 c38] at s30; exact s30),evA 1 6 eb40 e42,evUw 1 7 size33 f43 e54,ltF 4 1 34 c60,gtF 4 4 34 c65,ltF 4 8 3 c70,gtF 4 12 3 c75,evLw 8 0 agg33 size33 f57,evLw 8 1 agg33 size33 f55,evQ 8 2 (cmp33_neq (decide_eq_false (not_not_intro c80))),evC 10 1 4 agg3 f56,evV 10 2 (vP 1 2) (show indexAddrA Tryz.prog 130 (vP 1 0) (vI s.st)=some (vP 1 2) from by rw [c106]; kernel_rfl),evC 10 3 2 agg129 (x59 _ _ hg1),evLw 10 4 agg38 size38 f56,evF 10 5 s108,evC 99 0 2 agg129 (x116 _ _ hg1),evC 99 0 4 agg3 f114,evF 10 8 sn121,evUw 10 9 size38 f123 e127] [evLw 0 0 agg38 size38 f128,evR (vI 0)] (vT #[(vA #[(vS s.d.name),(vI s.d.rt),(vI s.d.dl),(vL w109 s.d.xs.length c110),(vI ((freS s (res) (now)).1)),(vI ((freS s (res) (now)).2.1)),(vB s.cn),(vI ((freS s (res) (now)).2.2.1)),(vI s.bg),(vI ((freS s (res) (now)).2.2.2))]),(vI 0)]) h126 ⟨fun w=>absurd ee w,fun _=>⟨w109,c110,by rw [nxtS_2 (by omega)],p129,o119⟩,x130⟩
         ·have w131:(s.st)=3:=by omega
          obtain ⟨_,h132,s133,w134,c135,rfl,o136,x137,b138⟩:=copys_ok h53 s _ _ (hl.keep fun b r _ q=>x59 b r q) (by omega)
          have f139:=x137 _ _ f56
          have f140:=x137 _ _ f58
          have x141:=x59.trans x137
          have z142:h.size≤h53.size:=x59.size
          have n143:∀ zz,blk (Value.slice w134 (s.d.xs.length) (c135)) zz→¬ zz=b19:=fun zz hz ez=>by have:=b138 zz hz; have:=row_lt f58; omega
          have o144:∀ zz,blk (Value.slice w134 (s.d.xs.length) (c135)) zz→h.size≤zz:=fun zz hz=>by have:=b138 zz hz; omega
          obtain ⟨_,hh145,sn146,rfl,x147⟩:=undS_ok h132 s _ _ (OwnAt.lat o136 stepc_size (tsz_of size67)) (by omega) (res) (now) c37
          have f148:=x147 _ _ f140
          have p149:=o136.keep fun b r _ q=>x147 b r q
          have x150:=x141.trans x147
          obtain ⟨h151,e152⟩:∃ zq,zq=hh145.setIfInBounds b19 (.cells #[(vS s.d.name),(vI (s.d.rt)),(vI (s.d.dl)),(Value.slice w134 (s.d.xs.length) (c135)),(vI ((undS s (res) (now)).1)),(vI ((undS s (res) (now)).2.1)),(vB s.cn),(vI ((undS s (res) (now)).2.2)),(vI (s.bg)),(vI (s.er))] 38 (0,0)):=⟨_,rfl⟩
          have f153:=set_same e152 f148
          have p154:=p149.keep fun b r hb q=>(Chg.set e152).same b r q (n143 b hb)
          have x155:=Ext.setNew x150 e152 o25
          have ee:resE s e1 e2 e3 res now=0:=by unfold resE; rw [if_pos c37,if_pos (by omega),if_pos (by omega),if_pos c80]
          exact hCall_ev [evA 0 0 eb2 e4,evA 0 1 eb10 e12,evA 0 2 eb20 e22,evLw 1 0 agg38 size38 f26,evF 1 1 (by rw [nextV_open c37 c38] at s30; exact s30),evA 1 6 eb40 e42,evUw 1 7 size33 f43 e54,ltF 4 1 34 c60,gtF 4 4 34 c65,ltF 4 8 3 c70,gtF 4 12 3 c75,evLw 8 0 agg33 size33 f57,evLw 8 1 agg33 size33 f55,evQ 8 2 (cmp33_neq (decide_eq_false (not_not_intro c80))),evC 10 1 4 agg3 f56,evV 10 2 (vP 1 3) (show indexAddrA Tryz.prog 130 (vP 1 0) (vI s.st)=some (vP 1 3) from by rw [w131]; kernel_rfl),evC 10 3 3 agg129 (x59 _ _ hg1),evLw 10 4 agg38 size38 f56,evF 10 5 s133,evC 99 0 3 agg129 (x141 _ _ hg1),evC 99 0 4 agg3 f139,evF 10 8 sn146,evUw 10 9 size38 f148 e152] [evLw 0 0 agg38 size38 f153,evR (vI 0)] (vT #[(vA #[(vS s.d.name),(vI s.d.rt),(vI s.d.dl),(vL w134 s.d.xs.length c135),(vI ((undS s (res) (now)).1)),(vI ((undS s (res) (now)).2.1)),(vB s.cn),(vI ((undS s (res) (now)).2.2)),(vI s.bg),(vI s.er)]),(vI 0)]) h151 ⟨fun w=>absurd ee w,fun _=>⟨w134,c135,by rw [nxtS_3 (by omega)],p154,o144⟩,x155⟩
       ·obtain ⟨h156,e157⟩:∃ zq,zq=h53.setIfInBounds b19 (.cells #[(vS .empty),(vI 0),(vI 0),(Value.slice none 0 0),(vI 0),(vI 0),(vB false),(vI 0),(vI 0),(vI 0)] 38 (0,0)):=⟨_,rfl⟩
        have f158:=set_same e157 f58
        have x159:=Ext.setNew x59 e157 o25
        have ee:resE s e1 e2 e3 res now=8:=by unfold resE; rw [if_pos c37,if_pos (by omega),if_pos (by omega),if_neg c80]
        exact hCall_ev [evA 0 0 eb2 e4,evA 0 1 eb10 e12,evA 0 2 eb20 e22,evLw 1 0 agg38 size38 f26,evF 1 1 (by rw [nextV_open c37 c38] at s30; exact s30),evA 1 6 eb40 e42,evUw 1 7 size33 f43 e54,ltF 4 1 34 c60,gtF 4 4 34 c65,ltF 4 8 3 c70,gtF 4 12 3 c75,evLw 8 0 agg33 size33 f57,evLw 8 1 agg33 size33 f55,evQ 8 2 (cmp33_neq (decide_eq_true c80)),evUw 9 1 size38 f58 e157] [evLw 0 0 agg38 size38 f158,evR (vI 8)] (vT #[(vA #[(vS .empty),(vI 0),(vI 0),(vL none 0 0),(vI 0),(vI 0),(vB false),(vI 0),(vI 0),(vI 0)]),(vI 8)]) h156 ⟨fun _=>by rw [ee],fun w=>absurd (ee.symm.trans w) (by decide),x159⟩
  ·obtain ⟨b160,eb161⟩:∃ zq,zq=h29.size:=⟨_,rfl⟩
   obtain ⟨h162,e163⟩:∃ zq,zq=h29.push (.cells #[(vI 0),(vI 0),(vI 0)] 33 (0,0)):=⟨_,rfl⟩
   have f164:=push_new e163
   rw [← eb161] at f164
   have n165:b160 ≠ b19:=by have:=row_lt f35; omega
   have x166:Ext h29 h162:=by rw [e163]; exact Ext.push _ _
   have o167:h.size≤b160:=by have:=x36.size; omega
   have f168:=x166 _ _ f35
   have x169:=x36.trans x166
   obtain ⟨h170,e171⟩:∃ zq,zq=h162.setIfInBounds b160 (.cells #[(vI 0),(vI 0),(vI 0)] 33 (0,0)):=⟨_,rfl⟩
   have f172:=set_other e171 f168 n165
   have x173:=Ext.setNew x169 e171 o167
   by_cases c174:((res):Int) < 0
   ·obtain ⟨h175,e176⟩:∃ zq,zq=h170.setIfInBounds b19 (.cells #[(vS .empty),(vI 0),(vI 0),(Value.slice none 0 0),(vI 0),(vI 0),(vB false),(vI 0),(vI 0),(vI 0)] 38 (0,0)):=⟨_,rfl⟩
    have f177:=set_same e176 f172
    have x178:=Ext.setNew x173 e176 o25
    have ee:resE s e1 e2 e3 res now=2:=by unfold resE; rw [if_pos c37,if_neg (by omega)]
    exact hCall_ev [evA 0 0 eb2 e4,evA 0 1 eb10 e12,evA 0 2 eb20 e22,evLw 1 0 agg38 size38 f26,evF 1 1 (by rw [nextV_done c37 c38] at s30; exact s30),evA 1 6 eb161 e163,evUw 1 7 size33 f164 e171,ltT 4 1 34 c174,evUw 5 1 size38 f172 e176] [evLw 0 0 agg38 size38 f177,evR (vI 2)] (vT #[(vA #[(vS .empty),(vI 0),(vI 0),(vL none 0 0),(vI 0),(vI 0),(vB false),(vI 0),(vI 0),(vI 0)]),(vI 2)]) h175 ⟨fun _=>by rw [ee],fun w=>absurd (ee.symm.trans w) (by decide),x178⟩
   ·by_cases c179:(18:Int) < (res)
    ·obtain ⟨h180,e181⟩:∃ zq,zq=h170.setIfInBounds b19 (.cells #[(vS .empty),(vI 0),(vI 0),(Value.slice none 0 0),(vI 0),(vI 0),(vB false),(vI 0),(vI 0),(vI 0)] 38 (0,0)):=⟨_,rfl⟩
     have f182:=set_same e181 f172
     have x183:=Ext.setNew x173 e181 o25
     have ee:resE s e1 e2 e3 res now=2:=by unfold resE; rw [if_pos c37,if_neg (by omega)]
     exact hCall_ev [evA 0 0 eb2 e4,evA 0 1 eb10 e12,evA 0 2 eb20 e22,evLw 1 0 agg38 size38 f26,evF 1 1 (by rw [nextV_done c37 c38] at s30; exact s30),evA 1 6 eb161 e163,evUw 1 7 size33 f164 e171,ltF 4 1 34 c174,gtT 4 4 34 c179,evUw 5 1 size38 f172 e181] [evLw 0 0 agg38 size38 f182,evR (vI 2)] (vT #[(vA #[(vS .empty),(vI 0),(vI 0),(vL none 0 0),(vI 0),(vI 0),(vB false),(vI 0),(vI 0),(vI 0)]),(vI 2)]) h180 ⟨fun _=>by rw [ee],fun w=>absurd (ee.symm.trans w) (by decide),x183⟩
    ·by_cases c184:((now):Int) < 0
     ·obtain ⟨h185,e186⟩:∃ zq,zq=h170.setIfInBounds b19 (.cells #[(vS .empty),(vI 0),(vI 0),(Value.slice none 0 0),(vI 0),(vI 0),(vB false),(vI 0),(vI 0),(vI 0)] 38 (0,0)):=⟨_,rfl⟩
      have f187:=set_same e186 f172
      have x188:=Ext.setNew x173 e186 o25
      have ee:resE s e1 e2 e3 res now=2:=by unfold resE; rw [if_pos c37,if_neg (by omega)]
      exact hCall_ev [evA 0 0 eb2 e4,evA 0 1 eb10 e12,evA 0 2 eb20 e22,evLw 1 0 agg38 size38 f26,evF 1 1 (by rw [nextV_done c37 c38] at s30; exact s30),evA 1 6 eb161 e163,evUw 1 7 size33 f164 e171,ltF 4 1 34 c174,gtF 4 4 34 c179,ltT 4 8 3 c184,evUw 5 1 size38 f172 e186] [evLw 0 0 agg38 size38 f187,evR (vI 2)] (vT #[(vA #[(vS .empty),(vI 0),(vI 0),(vL none 0 0),(vI 0),(vI 0),(vB false),(vI 0),(vI 0),(vI 0)]),(vI 2)]) h185 ⟨fun _=>by rw [ee],fun w=>absurd (ee.symm.trans w) (by decide),x188⟩
     ·by_cases c189:(2147483648:Int) < (now)
      ·obtain ⟨h190,e191⟩:∃ zq,zq=h170.setIfInBounds b19 (.cells #[(vS .empty),(vI 0),(vI 0),(Value.slice none 0 0),(vI 0),(vI 0),(vB false),(vI 0),(vI 0),(vI 0)] 38 (0,0)):=⟨_,rfl⟩
       have f192:=set_same e191 f172
       have x193:=Ext.setNew x173 e191 o25
       have ee:resE s e1 e2 e3 res now=2:=by unfold resE; rw [if_pos c37,if_neg (by omega)]
       exact hCall_ev [evA 0 0 eb2 e4,evA 0 1 eb10 e12,evA 0 2 eb20 e22,evLw 1 0 agg38 size38 f26,evF 1 1 (by rw [nextV_done c37 c38] at s30; exact s30),evA 1 6 eb161 e163,evUw 1 7 size33 f164 e171,ltF 4 1 34 c174,gtF 4 4 34 c179,ltF 4 8 3 c184,gtT 4 12 3 c189,evUw 5 1 size38 f172 e191] [evLw 0 0 agg38 size38 f192,evR (vI 2)] (vT #[(vA #[(vS .empty),(vI 0),(vI 0),(vL none 0 0),(vI 0),(vI 0),(vB false),(vI 0),(vI 0),(vI 0)]),(vI 2)]) h190 ⟨fun _=>by rw [ee],fun w=>absurd (ee.symm.trans w) (by decide),x193⟩
      ·obtain ⟨h194,e195⟩:∃ zq,zq=h170.setIfInBounds b19 (.cells #[(vS .empty),(vI 0),(vI 0),(Value.slice none 0 0),(vI 0),(vI 0),(vB false),(vI 0),(vI 0),(vI 0)] 38 (0,0)):=⟨_,rfl⟩
       have f196:=set_same e195 f172
       have x197:=Ext.setNew x173 e195 o25
       have ee:resE s e1 e2 e3 res now=9:=by unfold resE; rw [if_pos c37,if_pos (by omega),if_neg (by omega)]
       exact hCall_ev [evA 0 0 eb2 e4,evA 0 1 eb10 e12,evA 0 2 eb20 e22,evLw 1 0 agg38 size38 f26,evF 1 1 (by rw [nextV_done c37 c38] at s30; exact s30),evA 1 6 eb161 e163,evUw 1 7 size33 f164 e171,ltF 4 1 34 c174,gtF 4 4 34 c179,ltF 4 8 3 c184,gtF 4 12 3 c189,evUw 7 1 size38 f172 e195] [evLw 0 0 agg38 size38 f196,evR (vI 9)] (vT #[(vA #[(vS .empty),(vI 0),(vI 0),(vL none 0 0),(vI 0),(vI 0),(vB false),(vI 0),(vI 0),(vI 0)]),(vI 9)]) h194 ⟨fun _=>by rw [ee],fun w=>absurd (ee.symm.trans w) (by decide),x197⟩
 ·obtain ⟨b198,eb199⟩:∃ zq,zq=h29.size:=⟨_,rfl⟩
  obtain ⟨h200,e201⟩:∃ zq,zq=h29.push (.cells #[(vI 0),(vI 0),(vI 0)] 33 (0,0)):=⟨_,rfl⟩
  have f202:=push_new e201
  rw [← eb199] at f202
  have n203:b198 ≠ b19:=by have:=row_lt f35; omega
  have x204:Ext h29 h200:=by rw [e201]; exact Ext.push _ _
  have o205:h.size≤b198:=by have:=x36.size; omega
  have f206:=x204 _ _ f35
  have x207:=x36.trans x204
  obtain ⟨h208,e209⟩:∃ zq,zq=h200.setIfInBounds b198 (.cells #[(vI 0),(vI 0),(vI 0)] 33 (0,0)):=⟨_,rfl⟩
  have f210:=set_other e209 f206 n203
  have x211:=Ext.setNew x207 e209 o205
  obtain ⟨h212,e213⟩:∃ zq,zq=h208.setIfInBounds b19 (.cells #[(vS .empty),(vI 0),(vI 0),(Value.slice none 0 0),(vI 0),(vI 0),(vB false),(vI 0),(vI 0),(vI 0)] 38 (0,0)):=⟨_,rfl⟩
  have f214:=set_same e213 f210
  have x215:=Ext.setNew x211 e213 o25
  have ee:resE s e1 e2 e3 res now=chkS s:=by unfold resE; rw [if_neg c37]
  exact hCall_ev [evA 0 0 eb2 e4,evA 0 1 eb10 e12,evA 0 2 eb20 e22,evLw 1 0 agg38 size38 f26,evF 1 1 (by rw [nextV_bad c37] at s30; exact s30),evA 1 6 eb199 e201,evUw 1 7 size33 f202 e209,neT 2 1 34 c37,evUw 3 2 size38 f210 e213] [evLw 0 0 agg38 size38 f214,evR (vI (chkS s))] (vT #[(vA #[(vS .empty),(vI 0),(vI 0),(vL none 0 0),(vI 0),(vI 0),(vB false),(vI 0),(vI 0),(vI 0)]),(vI (chkS s))]) h212 ⟨fun _=>by rw [ee],fun w=>absurd (ee.symm.trans w) c37,x215⟩
set_option maxHeartbeats 4000000 in
theorem cancel_ok (h:Heap) (s:SagaM) (sa:Option Addr) (cp:Nat) (hl:LAt h stepc 2 s.d.xs (.slice sa s.d.xs.length cp)) (hlen:s.d.xs.length≤9223372036854775807):WCall Tryz.prog 41 #[(Value.agg #[(vS s.d.name),(vI (s.d.rt)),(vI (s.d.dl)),(Value.slice sa (s.d.xs.length) (cp)),(vI (s.st)),(vI (s.ix)),(vB s.cn),(vI (s.tr)),(vI (s.bg)),(vI (s.er))])] h (fun v h1=>(¬ canE s=0→v=.tuple #[(Value.agg #[(vS .empty),(vI 0),(vI 0),(Value.slice none 0 0),(vI 0),(vI 0),(vB false),(vI 0),(vI 0),(vI 0)]),.int .i64 (canE s)])∧(canE s=0→∃ w cw,v=.tuple #[(Value.agg #[(vS s.d.name),(vI (s.d.rt)),(vI (s.d.dl)),(Value.slice w (s.d.xs.length) (cw)),(vI ((canS s).st)),(vI ((canS s).ix)),(vB (canS s).cn),(vI ((canS s).tr)),(vI ((canS s).bg)),(vI ((canS s).er))]),.int .i64 0]∧OwnAt h1 67 stepc s.d.xs (.slice w s.d.xs.length cw)∧∀ b,blk (.slice w s.d.xs.length cw) b→h.size≤b)∧Ext h h1):=by
 obtain ⟨b1,eb2⟩:∃ zq,zq=h.size:=⟨_,rfl⟩
 obtain ⟨h3,e4⟩:∃ zq,zq=h.push (.cells #[(vS s.d.name),(vI (s.d.rt)),(vI (s.d.dl)),(Value.slice sa (s.d.xs.length) (cp)),(vI (s.st)),(vI (s.ix)),(vB s.cn),(vI (s.tr)),(vI (s.bg)),(vI (s.er))] 38 (0,0)):=⟨_,rfl⟩
 have f5:=push_new e4
 rw [← eb2] at f5
 have x6:Ext h h3:=by rw [e4]; exact Ext.push _ _
 have o7:h.size≤b1:=by have:=(Ext.refl h).size; omega
 have x8:=(Ext.refl h).trans x6
 obtain ⟨b9,eb10⟩:∃ zq,zq=h3.size:=⟨_,rfl⟩
 obtain ⟨h11,e12⟩:∃ zq,zq=h3.push (.cells #[(vS .empty),(vI 0),(vI 0),(Value.slice none 0 0),(vI 0),(vI 0),(vB false),(vI 0),(vI 0),(vI 0)] 38 (0,0)):=⟨_,rfl⟩
 have f13:=push_new e12
 rw [← eb10] at f13
 have n14:b9 ≠ b1:=by have:=row_lt f5; omega
 have x15:Ext h3 h11:=by rw [e12]; exact Ext.push _ _
 have o16:h.size≤b9:=by have:=x8.size; omega
 have f17:=x15 _ _ f5
 have x18:=x8.trans x15
 obtain ⟨_,h19,s20,rfl,x21⟩:=scheck_ok h11 s _ _ (hl.keep fun b r _ q=>x18 b r q) (by omega)
 have f22:=x21 _ _ f17
 have f23:=x21 _ _ f13
 have x24:=x18.trans x21
 by_cases c25:((chkS s):Int)=0
 ·obtain ⟨z2295d,z2295b,z2295o⟩:=chkS_zero c25
  have:=defB_of z2295d
  have:=budB_of z2295b
  have z2295i:=okI_of z2295o
  have:=z2295i.1
  by_cases c26:((s.st):Int)=1
  ·obtain ⟨_,h27,s28,w29,c30,rfl,o31,x32,b33⟩:=copys_ok h19 s _ _ (hl.keep fun b r _ q=>x24 b r q) (by omega)
   have f34:=x32 _ _ f22
   have f35:=x32 _ _ f23
   have x36:=x24.trans x32
   have z37:h.size≤h19.size:=x24.size
   have n38:∀ zz,blk (Value.slice w29 (s.d.xs.length) (c30)) zz→¬ zz=b1:=fun zz hz ez=>by have:=b33 zz hz; have:=row_lt f22; omega
   have n39:∀ zz,blk (Value.slice w29 (s.d.xs.length) (c30)) zz→¬ zz=b9:=fun zz hz ez=>by have:=b33 zz hz; have:=row_lt f23; omega
   have o40:∀ zz,blk (Value.slice w29 (s.d.xs.length) (c30)) zz→h.size≤zz:=fun zz hz=>by have:=b33 zz hz; omega
   obtain ⟨h41,e42⟩:∃ zq,zq=h27.setIfInBounds b1 (.cells #[(vS s.d.name),(vI (s.d.rt)),(vI (s.d.dl)),(Value.slice w29 (s.d.xs.length) (c30)),(vI (s.st)),(vI (s.ix)),(vB s.cn),(vI (s.tr)),(vI (s.bg)),(vI (s.er))] 38 (0,0)):=⟨_,rfl⟩
   have f43:=set_same e42 f34
   have f44:=set_other e42 f35 n14.symm
   have p45:=o31.keep fun b r hb q=>(Chg.set e42).same b r q (n38 b hb)
   have x46:=Ext.setNew x36 e42 o7
   obtain ⟨h47,e48⟩:∃ zq,zq=h41.setIfInBounds b1 (.cells #[(vS s.d.name),(vI (s.d.rt)),(vI (s.d.dl)),(Value.slice w29 (s.d.xs.length) (c30)),(vI (s.st)),(vI (s.ix)),(vB true),(vI (s.tr)),(vI (s.bg)),(vI (s.er))] 38 (0,0)):=⟨_,rfl⟩
   have f49:=set_same e48 f43
   have f50:=set_other e48 f44 n14.symm
   have p51:=p45.keep fun b r hb q=>(Chg.set e48).same b r q (n38 b hb)
   have x52:=Ext.setNew x46 e48 o7
   obtain ⟨h53,e54⟩:∃ zq,zq=h47.setIfInBounds b9 (.cells #[(vS s.d.name),(vI (s.d.rt)),(vI (s.d.dl)),(Value.slice w29 (s.d.xs.length) (c30)),(vI (s.st)),(vI (s.ix)),(vB true),(vI (s.tr)),(vI (s.bg)),(vI (s.er))] 38 (0,0)):=⟨_,rfl⟩
   have f55:=set_same e54 f50
   have p56:=p51.keep fun b r hb q=>(Chg.set e54).same b r q (n39 b hb)
   have x57:=Ext.setNew x52 e54 o16
   have ee:canE s=0:=by unfold canE; rw [if_pos c25,if_pos (by omega)]
   exact hCall_ev [evA 0 0 eb2 e4,evA 0 1 eb10 e12,evLw 1 0 agg38 size38 f17,evFi 1 1 c25 s20,evC 4 1 4 agg3 f22,neF 4 2 3 c26,evLw 6 0 agg38 size38 f22,evF 6 1 s28,evUw 6 2 size38 f34 e42,evT 7 1 6 size4 f43 e48,evLw 8 0 agg38 size38 f49,evUw 8 1 size38 f50 e54] [evLw 0 0 agg38 size38 f55,evR (vI 0)] (vT #[(vA #[(vS s.d.name),(vI s.d.rt),(vI s.d.dl),(vL w29 s.d.xs.length c30),(vI s.st),(vI s.ix),(vB true),(vI s.tr),(vI s.bg),(vI s.er)]),(vI 0)]) h53 ⟨fun w=>absurd ee w,fun _=>⟨w29,c30,rfl,p56,o40⟩,x57⟩
  ·obtain ⟨h58,e59⟩:∃ zq,zq=h19.setIfInBounds b9 (.cells #[(vS .empty),(vI 0),(vI 0),(Value.slice none 0 0),(vI 0),(vI 0),(vB false),(vI 0),(vI 0),(vI 0)] 38 (0,0)):=⟨_,rfl⟩
   have f60:=set_same e59 f23
   have x61:=Ext.setNew x24 e59 o16
   have ee:canE s=9:=by unfold canE; rw [if_pos c25,if_neg (by omega)]
   exact hCall_ev [evA 0 0 eb2 e4,evA 0 1 eb10 e12,evLw 1 0 agg38 size38 f17,evFi 1 1 c25 s20,evC 4 1 4 agg3 f22,neT 4 2 3 c26,evUw 5 1 size38 f23 e59] [evLw 0 0 agg38 size38 f60,evR (vI 9)] (vT #[(vA #[(vS .empty),(vI 0),(vI 0),(vL none 0 0),(vI 0),(vI 0),(vB false),(vI 0),(vI 0),(vI 0)]),(vI 9)]) h58 ⟨fun _=>by rw [ee],fun w=>absurd (ee.symm.trans w) (by decide),x61⟩
 ·obtain ⟨h62,e63⟩:∃ zq,zq=h19.setIfInBounds b9 (.cells #[(vS .empty),(vI 0),(vI 0),(Value.slice none 0 0),(vI 0),(vI 0),(vB false),(vI 0),(vI 0),(vI 0)] 38 (0,0)):=⟨_,rfl⟩
  have f65:=set_same e63 f23
  have x66:=Ext.setNew x24 e63 o16
  have ee:canE s=chkS s:=by unfold canE; rw [if_neg c25]
  exact hCall_ev [evA 0 0 eb2 e4,evA 0 1 eb10 e12,evLw 1 0 agg38 size38 f17,evF 1 1 s20,neT 2 1 34 c25,evUw 3 2 size38 f23 e63] [evLw 0 0 agg38 size38 f65,evR (vI (chkS s))] (vT #[(vA #[(vS .empty),(vI 0),(vI 0),(vL none 0 0),(vI 0),(vI 0),(vB false),(vI 0),(vI 0),(vI 0)]),(vI (chkS s))]) h62 ⟨fun _=>by rw [ee],fun w=>absurd (ee.symm.trans w) c25,x66⟩
set_option maxHeartbeats 4000000 in
theorem sstart_ok (h:Heap) (d:DefM) (sa:Option Addr) (cp:Nat) (hl:LAt h stepc 2 d.xs (.slice sa d.xs.length cp)) (hlen:d.xs.length≤1048576) (n:Int):WCall Tryz.prog 40 #[(Value.agg #[(vS d.name),(vI (d.rt)),(vI (d.dl)),(Value.slice sa (d.xs.length) (cp))]),(vI (n))] h (fun v h1=>(¬ staE d n=0→v=.tuple #[(Value.agg #[(vS .empty),(vI 0),(vI 0),(Value.slice none 0 0),(vI 0),(vI 0),(vB false),(vI 0),(vI 0),(vI 0)]),.int .i64 (staE d n)])∧(staE d n=0→∃ w cw,v=.tuple #[(Value.agg #[(vS d.name),(vI (d.rt)),(vI (d.dl)),(Value.slice w (d.xs.length) (cw)),(vI ((staS d n).st)),(vI ((staS d n).ix)),(vB (staS d n).cn),(vI ((staS d n).tr)),(vI ((staS d n).bg)),(vI ((staS d n).er))]),.int .i64 0]∧OwnAt h1 67 stepc d.xs (.slice w d.xs.length cw)∧∀ b,blk (.slice w d.xs.length cw) b→h.size≤b)∧Ext h h1):=by
 obtain ⟨b1,eb2⟩:∃ zq,zq=h.size:=⟨_,rfl⟩
 obtain ⟨h3,e4⟩:∃ zq,zq=h.push (.cells #[(vS d.name),(vI (d.rt)),(vI (d.dl)),(Value.slice sa (d.xs.length) (cp))] 31 (0,0)):=⟨_,rfl⟩
 have f5:=push_new e4
 rw [← eb2] at f5
 have x6:Ext h h3:=by rw [e4]; exact Ext.push _ _
 have o7:h.size≤b1:=by have:=(Ext.refl h).size; omega
 have x8:=(Ext.refl h).trans x6
 obtain ⟨b9,eb10⟩:∃ zq,zq=h3.size:=⟨_,rfl⟩
 obtain ⟨h11,e12⟩:∃ zq,zq=h3.push (.cells #[(vS .empty),(vI 0),(vI 0),(Value.slice none 0 0),(vI 0),(vI 0),(vB false),(vI 0),(vI 0),(vI 0)] 38 (0,0)):=⟨_,rfl⟩
 have f13:=push_new e12
 rw [← eb10] at f13
 have x14:Ext h3 h11:=by rw [e12]; exact Ext.push _ _
 have o15:h.size≤b9:=by have:=x8.size; omega
 have f17:=x14 _ _ f5
 have x18:=x8.trans x14
 obtain ⟨_,hh19,sn20,rfl,x21⟩:=dcheck_ok h11 d _ _ (hl.keep fun b r _ q=>x18 b r q) (by omega)
 have f22:=x21 _ _ f17
 have f23:=x21 _ _ f13
 have x24:=x18.trans x21
 by_cases c25:((if defB d=true then 0 else 15):Int)=0
 ·by_cases c26:((n):Int) < 0
  ·obtain ⟨h27,e28⟩:∃ zq,zq=hh19.setIfInBounds b9 (.cells #[(vS .empty),(vI 0),(vI 0),(Value.slice none 0 0),(vI 0),(vI 0),(vB false),(vI 0),(vI 0),(vI 0)] 38 (0,0)):=⟨_,rfl⟩
   have f29:=set_same e28 f23
   have x30:=Ext.setNew x24 e28 o15
   have ee:staE d n=2:=by unfold staE; rw [if_pos (ifz (by decide) c25),if_neg (by omega)]
   exact hCall_ev [evA 0 0 eb2 e4,evA 0 1 eb10 e12,evLw 1 0 agg31 size31 f17,evF 1 1 sn20,neF 1 2 34 c25,ltT 3 1 3 c26,evUw 4 1 size38 f23 e28] [evLw 0 0 agg38 size38 f29,evR (vI 2)] (vT #[(vA #[(vS .empty),(vI 0),(vI 0),(vL none 0 0),(vI 0),(vI 0),(vB false),(vI 0),(vI 0),(vI 0)]),(vI 2)]) h27 ⟨fun _=>by rw [ee],fun w=>absurd (ee.symm.trans w) (by decide),x30⟩
  ·by_cases c31:(2147483648:Int) < (n)
   ·obtain ⟨h32,e33⟩:∃ zq,zq=hh19.setIfInBounds b9 (.cells #[(vS .empty),(vI 0),(vI 0),(Value.slice none 0 0),(vI 0),(vI 0),(vB false),(vI 0),(vI 0),(vI 0)] 38 (0,0)):=⟨_,rfl⟩
    have f34:=set_same e33 f23
    have x35:=Ext.setNew x24 e33 o15
    have ee:staE d n=2:=by unfold staE; rw [if_pos (ifz (by decide) c25),if_neg (by omega)]
    exact hCall_ev [evA 0 0 eb2 e4,evA 0 1 eb10 e12,evLw 1 0 agg31 size31 f17,evF 1 1 sn20,neF 1 2 34 c25,ltF 3 1 3 c26,gtT 3 4 3 c31,evUw 4 1 size38 f23 e33] [evLw 0 0 agg38 size38 f34,evR (vI 2)] (vT #[(vA #[(vS .empty),(vI 0),(vI 0),(vL none 0 0),(vI 0),(vI 0),(vB false),(vI 0),(vI 0),(vI 0)]),(vI 2)]) h32 ⟨fun _=>by rw [ee],fun w=>absurd (ee.symm.trans w) (by decide),x35⟩
   ·obtain ⟨_,hh36,sn37,rfl,x38⟩:=start_ok hh19 d _ _ (hl.keep fun b r _ q=>x24 b r q) (by omega) n
    have f39:=x38 _ _ f22
    have f40:=x38 _ _ f23
    have x41:=x24.trans x38
    obtain ⟨b42,eb43⟩:∃ zq,zq=hh36.size:=⟨_,rfl⟩
    obtain ⟨h44,e45⟩:∃ zq,zq=hh36.push (.cells #[(vI 0),(vI 0)] 36 (0,0)):=⟨_,rfl⟩
    have f46:=push_new e45
    rw [← eb43] at f46
    have n47:b42 ≠ b1:=by have:=row_lt f39; omega
    have n48:b42 ≠ b9:=by have:=row_lt f40; omega
    have x49:Ext hh36 h44:=by rw [e45]; exact Ext.push _ _
    have o50:h.size≤b42:=by have:=x41.size; omega
    have f51:=x49 _ _ f39
    have f52:=x49 _ _ f40
    have x53:=x41.trans x49
    obtain ⟨h54,e55⟩:∃ zq,zq=h44.setIfInBounds b42 (.cells #[(vI 0),(vI (stS d n))] 36 (0,0)):=⟨_,rfl⟩
    have f56:=set_same e55 f46
    have f57:=set_other e55 f51 n47
    have f58:=set_other e55 f52 n48
    have x59:=Ext.setNew x53 e55 o50
    by_cases c60:((chkE true (defB d) (timB n)):Int)=0
    ·obtain ⟨_,h61,s62,w63,c64,rfl,o65,x66,b67⟩:=copyd_ok h54 d _ _ (hl.keep fun b r _ q=>x59 b r q) (by omega)
     have f68:=x66 _ _ f58
     have f69:=x66 _ _ f56
     have x70:=x59.trans x66
     have z71:h.size≤h54.size:=x59.size
     have n72:∀ zz,blk (Value.slice w63 (d.xs.length) (c64)) zz→¬ zz=b9:=fun zz hz ez=>by have:=b67 zz hz; have:=row_lt f58; omega
     have o73:∀ zz,blk (Value.slice w63 (d.xs.length) (c64)) zz→h.size≤zz:=fun zz hz=>by have:=b67 zz hz; omega
     obtain ⟨h74,e75⟩:∃ zq,zq=h61.setIfInBounds b9 (.cells #[(vS d.name),(vI (d.rt)),(vI (d.dl)),(Value.slice w63 (d.xs.length) (c64)),(vI 1),(vI 0),(vB false),(vI 0),(vI (stS d n)),(vI 0)] 38 (0,0)):=⟨_,rfl⟩
     have f76:=set_same e75 f68
     have p77:=o65.keep fun b r hb q=>(Chg.set e75).same b r q (n72 b hb)
     have x78:=Ext.setNew x70 e75 o15
     have ee:staE d n=0:=by unfold staE; rw [if_pos (ifz (by decide) c25),if_pos (by omega)]
     exact hCall_ev [evA 0 0 eb2 e4,evA 0 1 eb10 e12,evLw 1 0 agg31 size31 f17,evF 1 1 sn20,neF 1 2 34 c25,ltF 3 1 3 c26,gtF 3 4 3 c31,evLw 5 0 agg31 size31 f22,evF 5 2 sn37,evA 5 6 eb43 e45,evUw 5 7 size36 f46 e55,neF 6 1 34 c60,evLw 8 0 agg31 size31 f57,evLw 8 2 agg36 size36 f56,evF 8 1 s62,evLw 99 0 agg36 size36 f69,evUw 8 4 size38 f68 e75] [evLw 0 0 agg38 size38 f76,evR (vI 0)] (vT #[(vA #[(vS d.name),(vI d.rt),(vI d.dl),(vL w63 d.xs.length c64),(vI 1),(vI 0),(vB false),(vI 0),(vI (stS d n)),(vI 0)]),(vI 0)]) h74 ⟨fun w=>absurd ee w,fun _=>⟨w63,c64,by rw [show stS d n=n from if_pos c60]; rfl,p77,o73⟩,x78⟩
    ·obtain ⟨h79,e80⟩:∃ zq,zq=h54.setIfInBounds b9 (.cells #[(vS .empty),(vI 0),(vI 0),(Value.slice none 0 0),(vI 0),(vI 0),(vB false),(vI 0),(vI 0),(vI 0)] 38 (0,0)):=⟨_,rfl⟩
     have f81:=set_same e80 f58
     exact hCall_ev [evA 0 0 eb2 e4,evA 0 1 eb10 e12,evLw 1 0 agg31 size31 f17,evF 1 1 sn20,neF 1 2 34 c25,ltF 3 1 3 c26,gtF 3 4 3 c31,evLw 5 0 agg31 size31 f22,evF 5 2 sn37,evA 5 6 eb43 e45,evUw 5 7 size36 f46 e55,neT 6 1 34 c60,evUw 7 2 size38 f58 e80] [evLw 0 0 agg38 size38 f81,evR (vI (chkE true (defB d) (timB n)))] (vT #[(vA #[(vS .empty),(vI 0),(vI 0),(vL none 0 0),(vI 0),(vI 0),(vB false),(vI 0),(vI 0),(vI 0)]),(vI (chkE true (defB d) (timB n)))]) h79 (absurd (show chkE true (defB d) (timB n)=0 by rw [(ifz (by decide) c25),show timB n=true from decide_eq_true (by omega)]; rfl) c60)
 ·obtain ⟨h82,e83⟩:∃ zq,zq=hh19.setIfInBounds b9 (.cells #[(vS .empty),(vI 0),(vI 0),(Value.slice none 0 0),(vI 0),(vI 0),(vB false),(vI 0),(vI 0),(vI 0)] 38 (0,0)):=⟨_,rfl⟩
  have f84:=set_same e83 f23
  have x85:=Ext.setNew x24 e83 o15
  have ee:staE d n=15:=by unfold staE; rw [if_neg (fun w=>c25 (by rw [if_pos w]))]
  exact hCall_ev [evA 0 0 eb2 e4,evA 0 1 eb10 e12,evLw 1 0 agg31 size31 f17,evF 1 1 sn20,neT 1 2 34 c25,evUw 2 1 size38 f23 e83] [evLw 0 0 agg38 size38 f84,evR (vI 15)] (vT #[(vA #[(vS .empty),(vI 0),(vI 0),(vL none 0 0),(vI 0),(vI 0),(vB false),(vI 0),(vI 0),(vI 0)]),(vI 15)]) h82 ⟨fun _=>by rw [ee],fun w=>absurd (ee.symm.trans w) (by decide),x85⟩
theorem eq67 {a0 b0:ByteArray} {a1 b1:Int}:eqA Tryz.prog 8 67 (.agg #[.string a0,.int .i64 a1]) (.agg #[.string b0,.int .i64 b1])=some (decide (a0=b0∧a1=b1)):=by
 have e:eqA Tryz.prog 8 67 (.agg #[.string a0,.int .i64 a1]) (.agg #[.string b0,.int .i64 b1])=(match (some (a0 == b0):Option Bool) with | some true=>(match (some (a1 == b1):Option Bool) with | some true=>some true | some false=>some false | none=>none) | some false=>some false | none=>none):=by kernel_rfl
 rw [e]
 simp only [int_beq,bytes_beq,bool_beq]
 by_cases h0:a0=b0 <;> by_cases h1:a1=b1 <;> simp [h0,h1]
theorem cmp67_neq {a0 b0:ByteArray} {a1 b1:Int} {r:Bool} (e:decide (¬ (a0=b0∧a1=b1))=r):binA Tryz.prog .neq 67 (.agg #[.string a0,.int .i64 a1]) (.agg #[.string b0,.int .i64 b1])=some (.bool r):=by
 have k:binA Tryz.prog .neq 67 (.agg #[.string a0,.int .i64 a1]) (.agg #[.string b0,.int .i64 b1])=(eqA Tryz.prog 8 67 (.agg #[.string a0,.int .i64 a1]) (.agg #[.string b0,.int .i64 b1])).map (fun b=>.bool (!b)):=by kernel_rfl
 rw [k,eq67,← e]
 simp only [Option.map_some,decide_not]
end C29
