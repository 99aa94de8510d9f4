/- An abstract machine for Go, part 15: rounds of loops over functions are sound. -/
import Derived.Test.YtjkcadbblgefdaaGreatDoorAmn
namespace Go.AM

section
variable {P : Program} {R : Ren} {h h1 h2 h3 h' : Heap} {w w' : World} {ro : Option Nat} {a a1 a2 : Act} {x : Exit}

/-- The jump that a round leaves by. -/
def jumpOf:Exit→Option (Option Code)
 | .normal=>some none
 | .ret=>some (some .ret)
 | .exit id=>some (some (.exit id))
 | _=>none

/-- The temporaries of a round. -/
def roundTmps (L:Loop) (args:Array Value):Array Value:=(L.params.zip args).foldl (fun tmps (t,a)=>tmps.setIfInBounds t a) L.tmps

theorem foldl_set_rel:∀ (l l':List (Tmp × Value)) (t t':Array Value),l'.length=l.length→(∀ (i:Nat) (p p':Tmp × Value),l[i]?=some p→l'[i]?=some p'→p'.1=p.1∧VR R p.2 p'.2)→ArrR (VR R) t t' →
  ArrR (VR R) (l.foldl (fun tmps (q:Tmp × Value)=>tmps.setIfInBounds q.1 q.2) t) (l'.foldl (fun tmps (q:Tmp × Value)=>tmps.setIfInBounds q.1 q.2) t')
 | [],[],t,t',_,_,ht=>ht
 | [],_ :: _,_,_,hl,_,_=>by simp at hl
 | _ :: _,[],_,_,hl,_,_=>by simp at hl
 | p :: l,p' :: l',t,t',hl,hp,ht=>by
  obtain ⟨e1,e2⟩:=hp 0 p p' rfl rfl
  simp only [List.foldl_cons]
  refine foldl_set_rel l l' _ _ (by simpa using hl) (fun i q q' hq hq'=>hp (i + 1) q q' (by simpa using hq) (by simpa using hq')) ?_
  rw [e1]
  exact ht.set _ e2

theorem roundTmps_rel {L L':Loop} (hL:LoopR R L L') {args args':Array Value} (ha:ArrR (VR R) args args'):ArrR (VR R) (roundTmps L args) (roundTmps L' args'):=by
 unfold roundTmps
 rw [hL.params,← Array.foldl_toList,← Array.foldl_toList]
 refine foldl_set_rel _ _ _ _ (by simp [ha.1]) ?_ hL.tmps
 intro i p p' hp hp'
 simp only [Array.getElem?_toList,Array.getElem?_zip_eq_some] at hp hp'
 obtain ⟨h1,h2⟩:=hp
 obtain ⟨g1,g2⟩:=hp'
 rw [h1] at g1
 exact ⟨by simpa using g1.symm,ha.2 i _ _ h2 g2⟩

theorem Rel.loopOf (k:Rel P R (hget h) w) {l l':Nat} (hl:BR R l l') {L:Loop} (ho:h[l]?=some (.loop L)) :
  R.map l=some l'∧R.slack l=none∧∃ L',w.heap[l']?=some (.loop L')∧LoopR R L L':=by
 obtain ⟨h1,h2,o',h3,h4⟩:=k.objOf hl ho (by intro c e fr q; cases q)
 simp only [ObjR] at h4
 obtain ⟨L',rfl,hL⟩:=h4
 exact ⟨h1,h2,L',h3,hL⟩

theorem sound_yield {l:Nat} {args:Array Value} {L L1 L3:Loop} {j:Option Code} (hl:h[l]?=some (.loop L)) (hst:L.state=.ready) (hsz:args.size=L.params.size)
  (sa:SoundCode P (some l) L.assign { tmps:=roundTmps L args,defers:=[] } h .normal a1 h1) (hl1:h1[l]?=some (.loop L1)) (hst1:L1.state=.ready)
  (sb:SoundCode P (some l) L.body a1 (h1.setIfInBounds l (.loop { L1 with state:=.busy })) x a2 h3) (hl3:h3[l]?=some (.loop L3)) (hj:jumpOf x=some j) :
  SoundYield P l args h (.bool j.isNone) (h3.setIfInBounds l (.loop { L3 with state:=if j.isNone then .ready else .done,pending:=j })):=by
 intro R w l' args' k hb ha Q hq n ro
 obtain ⟨hm,hsl,L',hw,hL⟩:=k.loopOf hb hl
 refine ⟨L'.fn,roundTmps L' args',L'.assign,L'.body,run_yield hw (by rw [ha.1,hsz,hL.params]),?_⟩
 have hF:(wideR ro).inRound l'=wideR (some l'):=rfl
 refine roundIn_of_wpIn trivial ?_
 rw [hF,hL.assign,hL.body]
 refine (sa R w { tmps:=roundTmps L' args',defers:=[] } (some l') k ⟨roundTmps_rel hL ha,(rfl:([]:List Deferred)=[])⟩ ⟨l',rfl,hb⟩ _ ?_ n).1
 intro R1 w1 a1' hs1 ha1
 obtain ⟨hm1,hsl1,L1',hw1,hL1⟩:=hs1.rel.loopOf (hb.mono hs1.le) hl1
 refine ⟨_,run_beginRound hw1 (by rw [hL1.state,hst1]),?_⟩
 have hs2:=Sim.putOther hs1.rel hm1 hsl1 (o:=.loop { L1 with state:=.busy }) (o':=.loop { L1' with state:=.busy }) hw1 (by intro c e fr q; cases q)
  ⟨_,rfl,⟨rfl,hL1.pending,hL1.tmps,hL1.params,hL1.assign,hL1.body,hL1.defers⟩⟩ (by intro c e fr q; cases q)
 refine (sb R1 _ a1' (some l') hs2.rel ha1 ⟨l',rfl,hb.mono hs1.le⟩ _ ?_ n).1
 intro R3 w3 a3' hs3 ha3
 obtain ⟨hm3,hsl3,L3',hw3,hL3⟩:=hs3.rel.loopOf ((hb.mono hs1.le).mono hs3.le) hl3
 have hs4:=Sim.putOther hs3.rel hm3 hsl3 (o:=.loop { L3 with state:=if j.isNone then .ready else .done,pending:=j }) (o':=.loop { L3' with state:=if j.isNone then .ready else .done,pending:=j }) hw3 (by intro c e fr q; cases q)
  ⟨_,rfl,⟨rfl,rfl,hL3.tmps,hL3.params,hL3.assign,hL3.body,hL3.defers⟩⟩ (by intro c e fr q; cases q)
 have hfin:=hq R3 _ (.bool j.isNone) (((hs1.trans hs2).trans hs3).trans hs4) (by simp)
 cases x with
 | normal=>simp only [jumpOf,Option.some.injEq] at hj; subst hj; exact ⟨_,_,run_endRound none hw3,hfin⟩
 | ret=>simp only [jumpOf,Option.some.injEq] at hj; subst hj; exact ⟨_,_,run_endRound (some .ret) hw3,hfin⟩
 | exit id=>simp only [jumpOf,Option.some.injEq] at hj; subst hj; exact ⟨_,_,run_endRound (some (.exit id)) hw3,hfin⟩
 | goto t=>cases hj
 | panic c=>cases hj
 | outgrown=>cases hj

/-- The blocks that a loop over a function lays, and its mark. -/
def enterA (h:Heap) (tmps:Array Value) (params:Array Tmp) (assign body:Code):Option Nat→Option (Nat × List Deferred × Heap)
 | none=>some (h.size + 1,[{ target:=.collected h.size,args:=#[] }],
   (h.push (.deferred (some []))).push (.loop { state:=.ready,pending:=none,fn:=0,tmps,params,assign,body,defers:=h.size }))
 | some l0=>match h[l0]? with
  | some (.loop L0)=>some (h.size,[],h.push (.loop { state:=.ready,pending:=none,fn:=0,tmps,params,assign,body,defers:=L0.defers }))
  | _=>none

theorem enterA_sim (k:Rel P R (hget h) w) {tmps tmps':Array Value} (kt:ArrR (VR R) tmps tmps') {params:Array Tmp} {assign body:Code} {ro ro':Option Nat} (kr:RoR R ro ro') {l:Nat} {mark:List Deferred}
  (he:enterA h tmps params assign body ro=some (l,mark,h1)) (fn:FuncId) :
  ∃ l' mark' w1 R1,(Instr.enterLoop fn tmps' params assign body ro').run P w=.ok (l',mark') w1∧Sim P R h w R1 h1 w1∧BR R1 l l'∧DefsR R1 mark mark':=by
 cases ro with
 | none =>
  simp only [RoR] at kr; subst kr
  simp only [enterA,Option.some.injEq,Prod.mk.injEq] at he
  obtain ⟨rfl,rfl,rfl⟩:=he
  have s1:=Sim.alloc k (o:=.deferred (some [])) (o':=.deferred (some [])) (sl:=none) ⟨by simp [isSlack],fun z r e=>by cases e⟩ ⟨rfl,.inr rfl⟩
  have hle:=Ren.le_bind s1.rel (w.alloc (.deferred (some []))).heap.size none
  have hb0:BR (R.bind h.size w.heap.size none) h.size w.heap.size:=.inr (by simp [Ren.bind])
  have s2:=Sim.alloc s1.rel (o:=.loop { state:=.ready,pending:=none,fn:=0,tmps,params,assign,body,defers:=h.size })
   (o':=.loop { state:=.ready,pending:=none,fn,tmps:=tmps',params,assign,body,defers:=w.heap.size }) (sl:=none) ⟨by simp [isSlack],fun z r e=>by cases e⟩
   ⟨_,rfl,⟨rfl,rfl,(kt.monoR s1.le).monoR hle,rfl,rfl,rfl,hb0.mono hle⟩⟩
  refine ⟨_,_,_,_,run_enterLoop_outer fn tmps' params assign body,s1.trans s2,.inr (by simp [Ren.bind]),?_⟩
  exact ⟨_,[],rfl,⟨_,_,rfl,rfl,hb0.mono hle⟩,rfl⟩
 | some l0 =>
  obtain ⟨l0',rfl,hb⟩:=kr
  simp only [enterA] at he
  split at he
  ·rename_i L0 hl0
   simp only [Option.some.injEq,Prod.mk.injEq] at he
   obtain ⟨rfl,rfl,rfl⟩:=he
   obtain ⟨hm,hsl,L0',hw0,hL0⟩:=k.loopOf hb hl0
   have hle:=Ren.le_bind k w.heap.size none
   have s2:=Sim.alloc k (o:=.loop { state:=.ready,pending:=none,fn:=0,tmps,params,assign,body,defers:=L0.defers })
    (o':=.loop { state:=.ready,pending:=none,fn,tmps:=tmps',params,assign,body,defers:=L0'.defers }) (sl:=none) ⟨by simp [isSlack],fun z r e=>by cases e⟩
    ⟨_,rfl,⟨rfl,rfl,kt.monoR hle,rfl,rfl,rfl,hL0.defers.mono hle⟩⟩
   refine ⟨w.heap.size,[],_,_,?_,s2,.inr (by simp [Ren.bind]),rfl⟩
   simp [Instr.enterLoop,run_getLoop hw0,run_newObj_alloc]
  ·cases he

theorem DefsR.append:∀ {d d' e e':List Deferred},DefsR R d d'→DefsR R e e'→DefsR R (d++e) (d'++e')
 | [],d',e,e',h1,h2=>by simp only [DefsR] at h1; subst h1; exact h2
 | x :: d,d',e,e',h0,h2=>by
  obtain ⟨x',r',rfl,h1,h3⟩:=h0
  exact ⟨x',r'++e',rfl,h1,h3.append h2⟩

theorem sound_rangeFunc {g:Operand} {params:Array Tmp} {assign body:Code} {k0:FuncId} {fn0:Func} {first cap:Array Value} {l:Nat} {mark:List Deferred} {v:Value} {L2:Loop}
  (hok:opndOk g=true) (hg:a.eval g=.func (.func k0) first cap) (hf:P.funcs[k0]?=some fn0) (hname:(fn0.name == "runtime.NumGoroutine")=false) (hbody:fn0.body.isSome=true)
  (he:enterA h a.tmps params assign body ro=some (l,mark,h1)) (hc:SoundCall P k0 (first++#[.func (.yield l) #[] #[]]++cap) h1 v h2) (hl2:h2[l]?=some (.loop L2)) (hst2:L2.state ≠ .busy)
  (hj:(L2.pending=none∧x=.normal∧a2={ a with defers:=mark++a.defers }∧h3=h2.setIfInBounds l (.loop { L2 with state:=.exhausted })) ∨
   ∃ c,L2.pending=some c∧SoundCode P ro c { a with defers:=mark++a.defers } (h2.setIfInBounds l (.loop { L2 with state:=.exhausted })) x a2 h3) :
  SoundCode P ro (.rangeFunc g params assign body) a h x a2 h3:=by
 refine sound_plain (fun _ e=>by cases e) fun R w a' ro' k ka kr Q hq n=>wpIn_rangeFunc fun fn _=>?_
 obtain ⟨l',mark',w1,R1,hrun,hs1,hb1,hmk⟩:=enterA_sim k ka.tmps kr he fn
 have hgv:=ka.eval k.glob hok
 rw [hg,VR_func] at hgv
 obtain ⟨fn',first',cap',hge,hfn,f1,f2⟩:=hgv
 simp only [FnR] at hfn
 subst hfn
 have hbs:fn0.body ≠ none:=by intro q; rw [q] at hbody; cases hbody
 have hname':¬ fn0.name= "runtime.NumGoroutine":=by simpa using hname
 have hres:(resolve a'.eval (rangeCall g l') 0).run P w1=.ok { target:=.fn (.func k0) cap',args:=first'++#[.func (.yield l') #[] #[]] } w1:=by
  have hc0:a'.eval (.const (.func (.yield l') #[] #[]))=.func (.yield l') #[] #[]:=rfl
  simp [resolve,hge,Deferred.ofValue,hc0]
 have hinv:(invoke (.fn (.func k0) cap') (first'++#[.func (.yield l') #[] #[]])).run P w1=.ok (.enter k0 (first'++#[.func (.yield l') #[] #[]]++cap')) w1:=by
  simp [invoke,callFunc,hf,hname',hbs]
 refine ⟨l',mark',w1,_,w1,k0,_,w1,hrun,hres,fun _ _=>trivial,hinv,fun q=>(by simp [wideR] at q),?_⟩
 have hyr:VR R1 (.func (.yield l) #[] #[]) (.func (.yield l') #[] #[]):=by
  rw [VR_func]; exact ⟨_,_,_,rfl,⟨l',rfl,hb1⟩,ArrR.empty _,ArrR.empty _⟩
 have hargs:ArrR (VR R1) (first++#[.func (.yield l) #[] #[]]++cap) (first'++#[.func (.yield l') #[] #[]]++cap') :=
  (((f1.monoR hs1.le)).append (ArrR.one hyr)).append (f2.monoR hs1.le)
 refine hc R1 w1 _ hs1.rel hargs _ ?_ _ ro'
 intro R2 w2 v' hs2 hv'
 obtain ⟨hm2,hsl2,L2',hw2,hL2⟩:=hs2.rel.loopOf (hb1.mono hs2.le) hl2
 have hs3:=Sim.putOther hs2.rel hm2 hsl2 (o:=.loop { L2 with state:=.exhausted }) (o':=.loop { L2' with state:=.exhausted }) hw2 (by intro c e fr q; cases q)
  ⟨_,rfl,⟨rfl,hL2.pending,hL2.tmps,hL2.params,hL2.assign,hL2.body,hL2.defers⟩⟩ (by intro c e fr q; cases q)
 have hact:ActR R2 { a with defers:=mark++a.defers } { a' with defers:=mark'++a'.defers } :=
  ⟨(ka.tmps.monoR hs1.le).monoR hs2.le,(hmk.mono hs2.le).append ((ka.defers.mono hs1.le).mono hs2.le)⟩
 refine ⟨_,_,run_endLoop hw2 (by rw [hL2.state]; exact hst2),?_⟩
 rcases hj with ⟨hp,rfl,rfl,rfl⟩ | ⟨c,hp,hsc⟩
 ·have hp':=hL2.pending.trans hp
  rw [hp'] at hs3 ⊢
  exact hq R2 _ _ ((hs1.trans hs2).trans hs3) hact
 ·have hp':=hL2.pending.trans hp
  rw [hp'] at hs3 ⊢
  exact (hsc R2 _ _ ro' hs3.rel hact ((kr.mono hs1.le).mono hs2.le) Q (fun R4 w4 a4' hs4 ha4=>hq R4 w4 a4' (((hs1.trans hs2).trans hs3).trans hs4) ha4) n).1
end
end Go.AM
