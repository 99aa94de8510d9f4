/- An abstract machine for Go, parts 7 to 11. -/
import Derived.Test.YtjkcadbblgefdaaGreatDoorAmf
import Derived.Laws.BytesString
import Derived.IntWalk
namespace Go.AM

section
variable {P : Program} {R : Ren} {h h' : Heap} {w : World}

theorem AR.add {a a':Addr} (ha:AR R a a') (n:Nat):AR R (a.add n) (a'.add n):=by
 rw [addr_add a ha.1,addr_add a' ha.2.1]
 refine ⟨rfl,rfl,?_⟩
 rcases ha.2.2 with q | ⟨q,e⟩
 ·exact .inl q
 ·exact .inr ⟨q,by rw [e]⟩

theorem SAR.ar {a a':Addr} {n c':Nat} (h:SAR R a a' n c') (hn:¬(n=0∧c'=0)):AR R a a':=by
 refine ⟨h.1,h.2.1,?_⟩
 rcases h.2.2 with q | ⟨q,e⟩
 ·exact .inl q
 ·exact .inr ⟨q,e.resolve_right fun x=>hn ⟨x.1,x.2.1⟩⟩

def fieldAddrA (P:Program) (s:TypeId) (x:Value) (f:Nat):Option Value :=
 match P.underlying s,x with
 | some (.struct fields),.pointer (some a)=>match fields[f]? with
  | some fl=>match P.info? fl.type with
   | some i=>if i.size=0 then none else some (.pointer (some (a.add fl.offset)))
   | none=>none
  | none=>none
 | _,_=>none

theorem fieldAddrA_sim {s:TypeId} {x x' v:Value} {f:Nat} (hx:VR R x x') (hv:fieldAddrA P s x f=some v):∃ v',(Instr.fieldAt s x' f).run P w=.ok v' w∧VR R v v':=by
 unfold fieldAddrA at hv
 split at hv
 ·rename_i fields a hu
  rw [VR_ptr] at hx
  obtain ⟨a',rfl,ha⟩:=hx
  split at hv
  ·rename_i fl hfl
   split at hv
   ·rename_i i hi
    split at hv
    ·cases hv
    ·rename_i h0
     cases hv
     refine ⟨.pointer (some (a'.add fl.offset)),?_,by rw [VR_ptr]; exact ⟨_,rfl,ha.add _⟩⟩
     simp [Instr.fieldAt,run_underlying hu,hfl,Instr.sureAddr,fieldPlace,sizeOf,typeInfo,hi,h0]
   ·cases hv
  ·cases hv
 ·cases hv

def fieldA (P:Program) (t:TypeId) (x:Value) (f:Nat):Option Value :=
 match P.underlying t,x with
 | some (.struct fields),.agg cs=>match fields[f]? with
  | some fl=>partA P fl.type cs fl.offset
  | none=>none
 | _,_=>none

theorem fieldA_sim {t:TypeId} {x x' v:Value} {f:Nat} (hx:VR R x x') (hv:fieldA P t x f=some v):∃ v',(Instr.field t x' f).run P w=.ok v' w∧VR R v v':=by
 unfold fieldA at hv
 split at hv
 ·rename_i fields cs hu
  rw [VR_agg] at hx
  obtain ⟨cs',rfl,hc⟩:=hx
  split at hv
  ·rename_i fl hfl
   obtain ⟨v',h1,h2⟩:=partA_rel hc hv
   exact ⟨v',by simp [Instr.field,run_underlying hu,hfl,asAgg,partA_run h1],h2⟩
  ·cases hv
 ·cases hv

def indexAddrA (P:Program) (t:TypeId) (x ix:Value):Option Value :=
 match ix with
 | .int _ i=>match P.underlying t,x with
  | some (.slice e),.slice (some a) len _=>match P.info? e with
   | some inf=>if 0≤i∧i < len then some (.pointer (some (a.add (i.toNat * inf.size)))) else none
   | none=>none
  | some (.array len e),.pointer (some a)=>match P.info? e with
   | some inf=>if 0≤i∧i < len then some (.pointer (some (a.add (i.toNat * inf.size)))) else none
   | none=>none
  | _,_=>none
 | _=>none

theorem indexAddrA_sim {t:TypeId} {x x' ix ix' v:Value} (hx:VR R x x') (hix:VR R ix ix') (hv:indexAddrA P t x ix=some v):∃ v',(Instr.indexAt t x' ix').run P w=.ok v' w∧VR R v v':=by
 unfold indexAddrA at hv
 split at hv
 ·rename_i k i
  rw [VR_int] at hix
  subst hix
  split at hv
  ·rename_i e a len cap hu
   rw [VR_slice] at hx
   obtain ⟨a',c',rfl,hq⟩:=hx
   split at hv
   ·rename_i inf hi
    split at hv
    ·rename_i hb
     cases hv
     have har:AR R a a':=(hq.resolve_right fun g=>by have:=g.2.1; omega).1.ar (by omega)
     refine ⟨.pointer (some (a'.add (i.toNat * inf.size))),?_,by rw [VR_ptr]; exact ⟨_,rfl,har.add _⟩⟩
     simp [Instr.indexAt,asIntOf,run_underlying hu,hb,sizeOf,typeInfo,hi]
    ·cases hv
   ·cases hv
  ·rename_i len e a hu
   rw [VR_ptr] at hx
   obtain ⟨a',rfl,ha⟩:=hx
   split at hv
   ·rename_i inf hi
    split at hv
    ·rename_i hb
     cases hv
     refine ⟨.pointer (some (a'.add (i.toNat * inf.size))),?_,by rw [VR_ptr]; exact ⟨_,rfl,ha.add _⟩⟩
     simp [Instr.indexAt,asIntOf,run_underlying hu,hb,sizeOf,typeInfo,hi,Instr.sureAddr]
    ·cases hv
   ·cases hv
  ·cases hv
 ·cases hv

def indexA (P:Program) (t:TypeId) (x ix:Value):Option Value :=
 match ix with
 | .int _ i=>match P.underlying t,x with
  | some (.array len e),.agg cs=>match P.info? e with
   | some inf=>if 0≤i∧i < len then partA P e cs (i.toNat * inf.size) else none
   | none=>none
  | some .string,.string s=>if 0≤i then (s[i.toNat]?).map fun b=>.int .u8 b.toNat else none
  | _,_=>none
 | _=>none

theorem indexA_sim {t:TypeId} {x x' ix ix' v:Value} (hx:VR R x x') (hix:VR R ix ix') (hv:indexA P t x ix=some v):∃ v',(Instr.index t x' ix').run P w=.ok v' w∧VR R v v':=by
 unfold indexA at hv
 split at hv
 ·rename_i k i
  rw [VR_int] at hix
  subst hix
  split at hv
  ·rename_i len e cs hu
   rw [VR_agg] at hx
   obtain ⟨cs',rfl,hc⟩:=hx
   split at hv
   ·rename_i inf hi
    split at hv
    ·rename_i hb
     obtain ⟨v',h1,h2⟩:=partA_rel hc hv
     exact ⟨v',by simp [Instr.index,asIntOf,run_underlying hu,hb,sizeOf,typeInfo,hi,partA_run h1],h2⟩
    ·cases hv
   ·cases hv
  ·rename_i s hu
   rw [VR_string] at hx
   subst hx
   split at hv
   ·rename_i h0
    simp only [Option.map_eq_some_iff] at hv
    obtain ⟨b,hb,rfl⟩:=hv
    exact ⟨.int .u8 b.toNat,by simp [Instr.index,asIntOf,run_underlying hu,h0,hb],by simp⟩
   ·cases hv
  ·cases hv
 ·cases hv

def bndA (x:Value) (y:Nat):Option Nat :=
 match x with
 | .int _ i=>if 0≤i∧i≤(y:Int) then some i.toNat else none
 | _=>none
def boundsA (len cap:Nat) (low high max:Option Value):Option (Nat × Nat × Nat) :=
 match (match max with | some v=>bndA v cap | none=>some cap) with
 | none=>none
 | some m=>match (match high with | some v=>bndA v m | none=>if max.isSome ∨ m < len then none else some len) with
  | none=>none
  | some hi=>match (match low with | some v=>bndA v hi | none=>some 0) with
   | none=>none
   | some l=>some (l,hi,m)

def OptR (R:Ren) (x x':Option Value):Prop:=(x=none∧x'=none) ∨ ∃ v v',x=some v∧x'=some v'∧VR R v v'

theorem bndA_run {x x':Value} {y y' n:Nat} {code:BoundsCode} (hx:VR R x x') (hy:y≤y') (hb:bndA x y=some n):(Instr.sliceBound x' y' code).run P w=.ok n w∧n≤y:=by
 unfold bndA at hb
 split at hb
 ·rename_i k i
  rw [VR_int] at hx; subst hx
  split at hb
  ·rename_i hc
   cases hb
   refine ⟨?_,by omega⟩
   have:0≤i∧i≤(y':Int):=by omega
   simp [Instr.sliceBound,asIntOf,this]
  ·cases hb
 ·cases hb

theorem boundsA_run {isSlice:Bool} {len cap cap':Nat} {low low' high high' max max':Option Value} (hl:OptR R low low') (hh:OptR R high high') (hm:OptR R max max') (hc:cap≤cap') {l hi m:Nat}
  (hb:boundsA len cap low high max=some (l,hi,m)) :
  ∃ m',(Instr.sliceBounds isSlice len cap' low' high' max').run P w=.ok (l,hi,m') w∧(max=none→m=cap∧m'=cap')∧(max ≠ none→m'=m)∧l≤hi∧hi≤m∧m≤cap:=by
 unfold boundsA at hb
 split at hb
 ·cases hb
 rename_i m0 hm0
 split at hb
 ·cases hb
 rename_i h0 hh0
 split at hb
 ·cases hb
 rename_i l0 hl0
 simp only [Option.some.injEq,Prod.mk.injEq] at hb
 obtain ⟨rfl,rfl,rfl⟩:=hb
 have low_ok:l0≤h0∧∀ hh',h0≤hh'→(match low' with | some v=>Instr.sliceBound v h0 (if max'.isSome then .slice3C else .sliceB) | none=>pure 0).run P w=.ok l0 w:=by
  rcases hl with ⟨rfl,rfl⟩ | ⟨q,q',rfl,rfl,rq⟩
  ·simp at hl0; subst hl0; exact ⟨Nat.zero_le _,fun _ _=>rfl⟩
  ·simp only at hl0
   exact ⟨(bndA_run (P:=P) (w:=w) (code:=.index) rq (Nat.le_refl _) hl0).2,fun _ _=>(bndA_run (P:=P) (w:=w) rq (Nat.le_refl _) hl0).1⟩
 have hl1:=low_ok.2 h0 (Nat.le_refl _)
 rcases hm with ⟨rfl,rfl⟩ | ⟨v,v',rfl,rfl,rv⟩
 ·simp only [Option.some.injEq] at hm0; subst hm0
  rcases hh with ⟨rfl,rfl⟩ | ⟨u,u',rfl,rfl,ru⟩
  ·simp only [Option.isSome_none,Bool.false_eq_true,false_or] at hh0
   split at hh0
   ·cases hh0
   ·rename_i hlt
    cases hh0
    refine ⟨cap',?_,fun _=>⟨rfl,rfl⟩,fun e=>absurd rfl e,low_ok.1,by omega,Nat.le_refl _⟩
    cases low' <;> simp_all [Instr.sliceBounds]
  ·simp only at hh0
   have hu1:=fun c=>bndA_run (P:=P) (w:=w) (code:=c) ru hc hh0
   refine ⟨cap',?_,fun _=>⟨rfl,rfl⟩,fun e=>absurd rfl e,low_ok.1,(hu1 .index).2,Nat.le_refl _⟩
   have hu2:=fun c=>(hu1 c).1
   cases low' <;> simp_all [Instr.sliceBounds]
 ·simp only at hm0
  have hm1:=fun c=>bndA_run (P:=P) (w:=w) (code:=c) rv hc hm0
  have hm2:=fun c=>(hm1 c).1
  rcases hh with ⟨rfl,rfl⟩ | ⟨u,u',rfl,rfl,ru⟩
  ·simp at hh0
  ·simp only at hh0
   have hu1:=fun c=>bndA_run (P:=P) (w:=w) (code:=c) ru (Nat.le_refl _) hh0
   refine ⟨m0,?_,fun e=>(by cases e),fun _=>rfl,low_ok.1,(hu1 .index).2,(hm1 .index).2⟩
   have hu2:=fun c=>(hu1 c).1
   cases low' <;> simp_all [Instr.sliceBounds]

/-- The element type of a row with hidden room. -/
def slackElem (h:Heap) (b:Nat):Option TypeId :=
 match h[b]? with
 | some (.cells _ e fr)=>if fr=(1,1) then some e else none
 | _=>none

def deadAt (h:Heap) (b:Nat):Bool:=match h[b]? with | some (.cells _ _ fr)=>decide (fr=(2,2)) | _=>true

def sliceA (P:Program) (h:Heap) (t:TypeId) (x:Value) (low high max:Option Value):Option Value :=
 match P.underlying t,x with
 | some .string,.string s =>
  if max.isSome then none else
  match boundsA s.size s.size low high none with
  | some (l,hi,_)=>some (.string (s.extract l hi))
  | none=>none
 | some (.slice e),.slice none n c =>
  match boundsA n c low high max,P.info? e with
  | some (l,hi,m),some _=>some (.slice none (hi - l) (m - l))
  | _,_=>none
 | some (.slice e),.slice (some a) n c =>
  match P.info? e with
  | some i =>
   if i.size=0 ∨ deadAt h a.block=true then none else
   match boundsA n c low high max with
   | some (l,hi,m) =>
    match slackElem h a.block,max with
    | some e0,none=>if tsz P e0=i.size then some (.slice (some (a.add (l * i.size))) (hi - l) (m - l)) else none
    | _,_=>some (.slice (some (if m=l then a else a.add (l * i.size))) (hi - l) (m - l))
   | none=>none
  | none=>none
 | _,_=>none

theorem notdead {b:Nat} (k:Rel P R (hget h) w) (hd:deadAt h b=false):R.dead b=false:=by
 cases hb:R.dead b with
 | false=>rfl
 | true =>
  have:=(k.dead b hb).2
  simp only [hget] at this
  simp [deadAt,this,deadRow] at hd

theorem slack_map {b g:Nat} (k:Rel P R (hget h) w) (hm:R.map b=some g) :
  (slackElem h b=none→R.slack b=none)∧∀ e,slackElem h b=some e→∃ r c' e' fr',R.slack b=some (tsz P e,r)∧w.heap[g]?=some (.cells c' e' fr')∧c'.size=r∧∀ i,i < r→inFr fr' i=false:=by
 obtain ⟨o,o',h1,h2,_,h3,h4⟩:=k.obj b g hm
 simp only [hget] at h1
 constructor
 ·intro he
  have:isSlack (some o)=false:=by
   unfold slackElem at he
   rw [h1] at he
   cases o <;> simp_all [isSlack]
  rw [this] at h3
  cases hs:R.slack b
  ·rfl
  ·rw [hs] at h3; cases h3
 ·intro e he
  unfold slackElem at he
  rw [h1] at he
  split at he
  ·rename_i c e0 fr heq
   cases heq
   split at he
   ·rename_i hfr
    cases he
    subst hfr
    simp only [isSlack,decide_true] at h3
    cases hs:R.slack b with
    | none=>rw [hs] at h3; cases h3
    | some p =>
     obtain ⟨z,r⟩:=p
     obtain ⟨⟨c1,e1,q1,q2⟩,c',e',fr',q3,q4,q5⟩:=h4 z r hs
     cases q1
     exact ⟨r,c',e',fr',by rw [q2],by rw [h2,q3],q4,q5⟩
   ·cases he
  ·cases he

theorem sliceA_sim (k:Rel P R (hget h) w) {t:TypeId} {x x' v:Value} {low low' high high' max max':Option Value} (hx:VR R x x') (hl:OptR R low low') (hh:OptR R high high') (hm:OptR R max max')
  (hv:sliceA P h t x low high max=some v):∃ v',(Instr.sliceAt t x' low' high' max').run P w=.ok v' w∧VR R v v':=by
 unfold sliceA at hv
 split at hv
 ·rename_i s hu
  rw [VR_string] at hx; subst hx
  split at hv
  ·cases hv
  ·rename_i hmx
   have hmn:max=none:=by simpa using hmx
   subst hmn
   have hmn':max'=none:=by rcases hm with ⟨_,e⟩ | ⟨_,_,e,_⟩; exact e; cases e
   subst hmn'
   split at hv
   ·rename_i l hi m hb
    cases hv
    obtain ⟨m',h1,_⟩:=boundsA_run (P:=P) (w:=w) (isSlice:=false) hl hh hm (Nat.le_refl _) hb
    exact ⟨.string (s.extract l hi),by simp [Instr.sliceAt,Instr.slice,run_underlying hu,h1],by simp⟩
   ·cases hv
 ·rename_i e n c hu
  rw [VR_nilslice] at hx; subst hx
  split at hv
  ·rename_i l hi m i hb hi2
   cases hv
   obtain ⟨m',h1,h2,h3,_⟩:=boundsA_run (P:=P) (w:=w) (isSlice:=true) hl hh hm (Nat.le_refl _) hb
   have hmm:m'=m:=by
    by_cases hm0:max=none
    ·have:=h2 hm0; omega
    ·exact h3 hm0
   subst hmm
   refine ⟨.slice none (hi - l) (m' - l),?_,by simp⟩
   simp [Instr.sliceAt,Instr.slice,run_underlying hu,h1,sizeOf,typeInfo,hi2]
  ·cases hv
 ·rename_i e a n c hu
  rw [VR_slice] at hx
  obtain ⟨a',c',rfl,hq⟩:=hx
  split at hv
  ·rename_i i hi
   split at hv
   ·cases hv
   ·rename_i hcond
    have hsz:i.size ≠ 0:=fun e=>hcond (.inl e)
    rcases hq.symm with hg | ⟨ha,hc⟩
    ·obtain ⟨g1,rfl,rfl,rfl,g5,g6⟩:=hg
     split at hv
     ·rename_i l hi2 m hb
      obtain ⟨m',h1,h2,h3,h4,h5,h6⟩:=boundsA_run (P:=P) (w:=w) (isSlice:=true) hl hh hm (Nat.le_refl 0) hb
      have hm':m'=0:=by
       by_cases hm0:max=none
       ·exact (h2 hm0).2
       ·rw [h3 hm0]; omega
      have hl0:l=0:=by omega
      have hh0:hi2=0:=by omega
      have hmz:m=0:=by omega
      subst hm' hl0 hh0 hmz
      have hrun:(Instr.sliceAt t (.slice (some a') 0 0) low' high' max').run P w=.ok (.slice (some a') 0 0) w:=by
       simp only [Instr.sliceAt,Instr.slice,Sem.run_bind,run_underlying hu,Result.andThen_ok,h1]
       simp only [sizeOf,typeInfo,Sem.run_bind,run_program,Result.andThen_ok,hi,Sem.run_pure]
       simp
      have hval:v=.slice (some a) 0 0:=by
       split at hv
       ·split at hv
        ·cases hv; simp [Addr.add]
        ·cases hv
       ·cases hv; simp
      subst hval
      exact ⟨_,hrun,by rw [VR_slice]; exact ⟨a',0,rfl,.inr ⟨g1,rfl,rfl,rfl,g5,g6⟩⟩⟩
     ·cases hv
    have hnd:R.dead a.block=false:=notdead k (by cases hq:deadAt h a.block; rfl; exact absurd (.inr hq) hcond)
    have hcc:c≤c':=by rcases hc with q | ⟨_,_,q⟩ | q; omega; exact q.2.2.1; rw [hnd] at q; cases q
    obtain ⟨hmp,hoff⟩:R.map a.block=some a'.block∧(a'.off=a.off ∨ (n=0∧c'=0∧R.slack a.block ≠ none)):=by
     rcases ha.2.2 with q | q
     ·rw [hnd] at q; cases q
     ·exact q
    have hsl:=slack_map k hmp
    split at hv
    ·rename_i l hi2 m hb
     obtain ⟨m',h1,h2,h3,h4,h5,h6⟩:=boundsA_run (P:=P) (w:=w) (isSlice:=true) hl hh hm hcc hb
     have hrun:(Instr.sliceAt t (.slice (some a') n c') low' high' max').run P w=.ok (.slice (some (if m'=l then a' else a'.add (l * i.size))) (hi2 - l) (m' - l)) w:=by
      simp only [Instr.sliceAt,Instr.slice,Sem.run_bind,run_underlying hu,Result.andThen_ok,h1]
      simp only [sizeOf,typeInfo,Sem.run_bind,run_program,Result.andThen_ok,hi,Sem.run_pure]
      split <;> simp
     have hadd:a.add (l * i.size)=⟨a.block,a.off + l * i.size,none⟩:=addr_add a ha.1 _
     have hadd':a'.add (l * i.size)=⟨a'.block,a'.off + l * i.size,none⟩:=addr_add a' ha.2.1 _
     refine ⟨_,hrun,?_⟩
     obtain ⟨mx,hmx⟩:∃ mx,mx=max:=⟨_,rfl⟩
     rw [← hmx] at hv
     split at hv
     ·rename_i e0 hse
      split at hv
      ·rename_i hse2
       cases hv
       obtain ⟨r,c1,e1,f1,hr1,hr2,hr3,hr4⟩:=hsl.2 e0 hse
       obtain ⟨e1,e2⟩:=h2 hmx.symm
       subst e1 e2
       rw [VR_slice]
       refine ⟨_,_,rfl,.inl ⟨?_,?_⟩⟩
       ·rw [hadd]
        by_cases hml:m'=l
        ·rw [if_pos hml]
         exact ⟨rfl,ha.2.1,.inr ⟨hmp,.inr ⟨by omega,by omega,by rw [hr1]; simp⟩⟩⟩
        ·rw [if_neg hml,hadd']
         refine ⟨rfl,rfl,.inr ⟨hmp,.inl ?_⟩⟩
         rcases hoff with q | q
         ·simp [q]
         ·omega
       ·rw [hadd]
        rcases hc with q | ⟨z,r',q⟩ | q
        ·exact .inl (by omega)
        ·rw [hr1] at q
         obtain ⟨q0,q1,q2,q3⟩:=q
         simp only [Option.some.injEq,Prod.mk.injEq] at q0
         obtain ⟨z1,z2⟩:=q0
         refine .inr (.inl ⟨tsz P e0,r,hr1,?_,by omega,?_⟩)
         ·rintro ⟨z1,z2⟩
          simp only at z2
          have hl0:l=0:=by
           rcases Nat.eq_zero_or_pos l with z | z
           ·exact z
           ·have:=Nat.mul_pos z (Nat.pos_of_ne_zero hsz); omega
          exact q1 ⟨by omega,by omega⟩
         ·rw [← z1] at q3
          rw [hse2] at q3 ⊢
          simp only
          have hle:l≤m':=by omega
          rw [Nat.sub_mul]
          have:=Nat.mul_le_mul_right i.size hle
          omega
        ·rw [hnd] at q; cases q
      ·cases hv
     ·rename_i hs
      cases hv
      have hmm:m'=m:=by
       by_cases hm0:max=none
       ·obtain ⟨e1,e2⟩:=h2 hm0
        have hns:slackElem h a.block=none:=by
         cases hq:slackElem h a.block with
         | none=>rfl
         | some e0=>exact absurd (hmx.trans hm0) (hs e0 hq)
        have hns:=hsl.1 hns
        rcases hc with q | ⟨z,r',q⟩ | q
        ·omega
        ·rw [hns] at q; cases q.1
        ·rw [hnd] at q; cases q
       ·exact h3 hm0
      subst hmm
      rw [VR_slice]
      by_cases hml:m'=l
      ·rw [if_pos hml,if_pos hml]
       refine ⟨_,_,rfl,.inl ⟨⟨ha.1,ha.2.1,.inr ⟨hmp,hoff.imp id fun q=>⟨by omega,by omega,q.2.2⟩⟩⟩,.inl rfl⟩⟩
      ·rw [if_neg hml,if_neg hml,hadd,hadd']
       refine ⟨_,_,rfl,.inl ⟨⟨rfl,rfl,.inr ⟨hmp,.inl ?_⟩⟩,.inl rfl⟩⟩
       rcases hoff with q | q
       ·simp [q]
       ·omega
    ·cases hv
  ·cases hv
 ·cases hv
end

section
variable {P : Program} {R : Ren} {h h' : Heap} {w w' : World}

theorem append_run_room {t ty e:TypeId} {i:TypeInfo} (ht:P.underlying t=some (.slice e)) (hi:P.info? e=some i) {a:Addr} {n cap m:Nat} {x:Value}
  (hlen:Builtin.lenOf x=pure m) {news:Array Value} (hn:(Builtin.firstCells i.size m x).run P w=.ok news w) (hroom:n + m≤cap)
  (hst:(storeCells (a.add (n * i.size)) news.toList 0).run P w=.ok () w') :
  (Builtin.append_ #[t,t] ty #[.slice (some a) n cap,x]).run P w=.ok (.slice (some a) (n + m) cap) w':=by
 simp [Builtin.append_,run_underlying ht,sizeOf,typeInfo,hi,hlen,hroom,hn,hst]

theorem append_run_nil {t ty e:TypeId} {i:TypeInfo} (ht:P.underlying t=some (.slice e)) (hi:P.info? e=some i) {x:Value}
  (hlen:Builtin.lenOf x=pure 0) {news:Array Value} (hn:(Builtin.firstCells i.size 0 x).run P w=.ok news w) :
  (Builtin.append_ #[t,t] ty #[.slice none 0 0,x]).run P w=.ok (.slice none 0 0) w:=by
 simp [Builtin.append_,run_underlying ht,sizeOf,typeInfo,hi,hlen,hn]

theorem append_run_grow {t ty e:TypeId} {i:TypeInfo} {z:Value} (ht:P.underlying t=some (.slice e)) (hi:P.info? e=some i) (hz:i.zero=some z) {b:Option Addr} {n cap m:Nat} {x:Value}
  (hlen:Builtin.lenOf x=pure m) {olds news:Array Value} (ho:(Builtin.firstCells i.size n (.slice b n cap)).run P w.drew=.ok olds w.drew)
  (hn:(Builtin.firstCells i.size m x).run P w.drew=.ok news w.drew) (hgt:cap < n + m) (h63:n + m≤maxLen) (hb:(n + m) * i.bytes≤140737488355328) :
  (Builtin.append_ #[t,t] ty #[.slice b n cap,x]).run P w =
   .ok (.slice (some ⟨w.heap.size,0,none⟩) (n + m) (grownCap w (n + m) cap e))
    (w.drew.alloc (.cells (olds++news++Builtin.zeroCells z.cells (grownCap w (n + m) cap e - (n + m))) e)):=by
 have hn0:¬ (n + m≤cap):=by omega
 have h63':¬ (9223372036854775807 < ((n:Int) + (m:Int))):=by simp only [maxLen] at h63; omega
 have h48':¬ (281474976710656 < Builtin.nextslicecap (n + m) cap * i.bytes):=by have:=growslice_fits (by omega) hb; omega
 simp [Builtin.append_,run_underlying ht,sizeOf,typeInfo,zeroValue,hi,hz,hlen,hn0,h63',h48',Question.forced,ho,hn,newRow,grownCap]

/-- The cells of the second operand of an append. -/
def newsA (h:Heap) (size:Nat) (xb:Option Addr) (m:Nat):Option (Array Value) :=
 match xb with
 | some b=>loadN h b (m * size)
 | none=>if m=0 then some #[] else none

def appendA (P:Program) (h:Heap) (argTypes:Array TypeId) (args:Array Value):Option (Value × Heap) :=
 match argTypes.toList,args.toList with
 | [st,xt],[.slice base n cap,.slice xb m _] =>
  if st ≠ xt then none else
  match P.underlying st with
  | some (.slice e) =>
   match P.info? e,zeroA P e with
   | some i,some z =>
    if i.size=0 ∨ z.cells.size ≠ i.size then none else
    match newsA h i.size xb m with
    | none=>none
    | some news =>
     match base with
     | none=>if n ≠ 0 ∨ cap ≠ 0 then none else if m=0 then some (.slice none 0 0,h) else
       if m * i.bytes≤140737488355328∧m≤maxLen then some (.slice (some ⟨h.size,0,none⟩) m m,h.push (.cells news e (1,1))) else none
     | some a =>
      if deadAt h a.block=true then none else
      if n + m≤cap then (storeN h (a.add (n * i.size)) news.toList).map fun h'=>(.slice (some a) (n + m) cap,h')
      else if m ≠ 0∧(n + m) * i.bytes≤140737488355328∧n + m≤maxLen then
       match loadN h a (n * i.size) with
       | none=>none
       | some old =>
        match slackElem h a.block with
        | none=>some (.slice (some ⟨h.size,0,none⟩) (n + m) (n + m),h.push (.cells (old++news) e (1,1)))
        | some e0 =>
         if cap=0∧a.off=0 then some (.slice (some ⟨h.size,0,none⟩) (n + m) (n + m),h.push (.cells (old++news) e (1,1)))
         else if a.off=0∧tsz P e0=i.size∧news.toList.all (·.oneCell')=true then some (.slice (some ⟨h.size,0,none⟩) (n + m) (n + m),(h.setIfInBounds a.block deadRow).push (.cells (old++news) e (1,1)))
         else none
      else none
   | _,_=>none
  | _=>none
 | _,_=>none

theorem newsA_sim (k:Rel P R (hget h) w) {size m c:Nat} {xb:Option Addr} {x':Value} (hx:VR R (.slice xb m c) x') {news:Array Value} (hn:newsA h size xb m=some news) :
  Builtin.lenOf x'=pure m∧∃ news',(∀ w2:World,w2.heap=w.heap→(Builtin.firstCells size m x').run P w2=.ok news' w2)∧ArrR (VR R) news news'∧news.size=m * size:=by
 unfold newsA at hn
 split at hn
 ·rename_i b
  rw [VR_slice] at hx
  obtain ⟨a',c',rfl,hq⟩:=hx
  refine ⟨rfl,?_⟩
  by_cases h0:m=0
  ·subst h0
   simp only [Nat.zero_mul] at hn ⊢
   have:news=#[]:=by
    unfold loadN at hn
    split at hn
    ·split at hn
     ·cases hn; simp; omega
     ·cases hn
    ·cases hn
   subst this
   exact ⟨#[],fun _ _=>by simp [Builtin.firstCells,loadCells,loadCellsFrom],ArrR.empty _,rfl⟩
  ·obtain ⟨cs',h1,h2,h3⟩:=loadN_sim (P:=P) k ((hq.resolve_right fun g=>h0 g.2.1).1.ar (by omega)) hn
   exact ⟨cs',fun w2 hw2=>by simpa [Builtin.firstCells] using h1 w2 hw2,h2,h3⟩
 ·split at hn
  ·rename_i h0
   cases hn; subst h0
   rw [VR_nilslice] at hx; subst hx
   exact ⟨rfl,#[],fun _ _=>by simp [Builtin.firstCells],ArrR.empty _,by simp⟩
  ·cases hn

/-- What a new row of a grown slice is, on both sides. -/
theorem grown_obj {cs cs' tail:Array Value} (hc:ArrR (VR R) cs cs') (e:TypeId):ObjR R (.cells cs e (1,1)) (.cells (cs'++tail) e (0,0)):=by
 refine ⟨_,_,_,rfl,by simp [hc.1],fun i v hv=>?_,fun i _=>by simp [inFr]; omega⟩
 obtain ⟨v',h1,h2⟩:=hc.get hv
 have:i < cs'.size:=(Array.getElem?_eq_some_iff.1 h1).1
 exact ⟨v',by rw [Array.getElem?_append_left this]; exact h1,h2⟩

theorem grown_slack {cs row:Array Value} {e:TypeId} {fr:Nat × Nat} (hf:∀ i,i < row.size→inFr fr i=false):SlackOk P (some (tsz P e,row.size)) (.cells cs e (1,1)) (.cells row e fr) :=
 ⟨by simp [isSlack],fun z r q=>by cases q; exact ⟨⟨_,_,rfl,rfl⟩,_,_,_,rfl,rfl,hf⟩⟩

theorem size_zeroCells' (z:Array Value) (n:Nat):(Builtin.zeroCells z n).size=n * z.size:=by simp [Builtin.zeroCells]

theorem append_grow_sim (k:Rel P R (hget h) w) {t ty e:TypeId} {i:TypeInfo} {z:Value} (ht:P.underlying t=some (.slice e)) (hi:P.info? e=some i) (hz:i.zero=some z) (hs0:i.size ≠ 0)
  {b:Option Addr} {n cap m:Nat} {x':Value} {olds news olds' news':Array Value}
  (hlen:Builtin.lenOf x'=pure m) (ho:(Builtin.firstCells i.size n (.slice b n cap)).run P w.drew=.ok olds' w.drew)
  (hn:(Builtin.firstCells i.size m x').run P w.drew=.ok news' w.drew) (hro:ArrR (VR R) olds olds') (hrn:ArrR (VR R) news news') (hso:olds.size=n * i.size) (hsn:news.size=m * i.size)
  (hgt:cap < n + m) (h63:n + m≤maxLen) (hb:(n + m) * i.bytes≤140737488355328) (hzs:z.cells.size=i.size) :
  StepSim P R h w (Builtin.append_ #[t,t] ty #[.slice b n cap,x']) (.slice (some ⟨h.size,0,none⟩) (n + m) (n + m)) (h.push (.cells (olds++news) e (1,1))):=by
 have hrun:=append_run_grow (ty:=ty) ht hi hz hlen ho hn hgt h63 hb
 have hge:=grownCap_ge w (n + m) cap e
 have kd:Rel P R (hget h) w.drew:=k.of_heap rfl
 have hobj:∀ R',R.le R'→ObjR R' (.cells (olds++news) e (1,1)) (.cells (olds'++news'++Builtin.zeroCells z.cells (grownCap w (n + m) cap e - (n + m))) e (0,0)):=fun R' hl=>grown_obj ((hro.append hrn).monoR hl) e
 have hrs:(olds'++news'++Builtin.zeroCells z.cells (grownCap w (n + m) cap e - (n + m))).size=grownCap w (n + m) cap e * i.size:=by
  simp only [Array.size_append,size_zeroCells',hro.1,hrn.1,hso,hsn,hzs,← Nat.add_mul]
  congr 1; omega
 generalize olds'++news'++Builtin.zeroCells z.cells (grownCap w (n + m) cap e - (n + m))=row at hrun hobj hrs
 have hsl:SlackOk P (some (tsz P e,row.size)) (.cells (olds++news) e (1,1)) (.cells row e (0,0)):=grown_slack fun i _=>by simp [inFr]
 have hle:=Ren.le_bind kd w.heap.size (some (tsz P e,row.size))
 have hsim:=Sim.alloc kd hsl (hobj _ hle)
 refine ⟨_,_,_,hrun,?_,(Sim.same (w':=w.drew) k rfl rfl rfl rfl).trans hsim⟩
 rw [VR_slice]
 have htz:tsz P e=i.size:=by simp [tsz,hi]
 refine ⟨_,_,rfl,.inl ⟨⟨rfl,rfl,.inr ⟨by simp [Ren.bind],.inl rfl⟩⟩,.inr (.inl ⟨tsz P e,row.size,by simp [Ren.bind],by omega,hge,?_⟩)⟩⟩
 rw [hrs,htz]; simp
theorem loadN_inv {a:Addr} {n:Nat} {cs:Array Value} (hl:loadN h a n=some cs) :
  ∃ c e fr,h[a.block]?=some (.cells c e fr)∧a.spot=none∧a.off + n≤c.size∧cs=c.extract a.off (a.off + n):=by
 unfold loadN at hl
 split at hl
 ·rename_i c e fr hc
  split at hl
  ·rename_i hh; cases hl; exact ⟨c,e,fr,hc,hh.1,hh.2,rfl⟩
  ·cases hl
 ·cases hl

theorem append_kill_sim (k:Rel P R (hget h) w) {t ty e:TypeId} {i:TypeInfo} {z:Value} (ht:P.underlying t=some (.slice e)) (hi:P.info? e=some i) (hz:i.zero=some z) (hs0:i.size ≠ 0)
  {a a':Addr} {n cap cap' m:Nat} {x':Value} {olds news olds' news':Array Value} (ha:R.map a.block=some a'.block) (ha0:a.off=0) (ha0':a'.off=0) (has':a'.spot=none)
  {e0:TypeId} (hse:slackElem h a.block=some e0) (hse2:tsz P e0=i.size) (hroom:∀ r,R.slack a.block=some (tsz P e0,r)→cap' * tsz P e0≤r ∨ cap'=cap)
  (hlen:Builtin.lenOf x'=pure m) (ho:(loadCells a' (n * i.size)).run P w=.ok olds' w) (hod:(loadCells a' (n * i.size)).run P w.drew=.ok olds' w.drew)
  (hnr:(Builtin.firstCells i.size m x').run P w=.ok news' w)
  (hn:(Builtin.firstCells i.size m x').run P w.drew=.ok news' w.drew) (hro:ArrR (VR R) olds olds') (hrn:ArrR (VR R) news news') (hso:olds.size=n * i.size) (hsn:news.size=m * i.size)
  (hold:loadN h a (n * i.size)=some olds) (hone:news.toList.all (·.oneCell')=true)
  (hgt:cap < n + m) (h63:n + m≤maxLen) (hb:(n + m) * i.bytes≤140737488355328) (hzs:z.cells.size=i.size) :
  StepSim P R h w (Builtin.append_ #[t,t] ty #[.slice (some a') n cap',x']) (.slice (some ⟨h.size,0,none⟩) (n + m) (n + m)) ((h.setIfInBounds a.block deadRow).push (.cells (olds++news) e (1,1))):=by
 have htz:tsz P e=i.size:=by simp [tsz,hi]
 obtain ⟨_,hsl⟩:=slack_map k ha
 obtain ⟨r,c',e',fr',hr1,hr2,hr3,hr4⟩:=hsl e0 hse
 have hslA:R.slack a.block ≠ none:=by rw [hr1]; simp
 have hle0:=Ren.le_kill R a.block
 have hAlt:=(k.lt ha).1
 have kk:=k.kill hAlt
 by_cases hroomc:n + m≤cap'
 · -- there is room behind the row
  have hr5:cap' * i.size≤c'.size:=by
   rcases hroom r hr1 with q | q
   ·rw [hse2] at q; omega
   ·omega
  have hone':∀ v ∈ news'.toList,v.oneCell'=true:=by
   intro v' hv'
   obtain ⟨j,hj,ej⟩:=List.mem_iff_getElem.1 hv'
   have hj':j < news'.size:=by simpa using hj
   have hj0:j < news.size:=by rw [← hrn.1]; exact hj'
   have:=hrn.2 j news[j] v' (by simp [hj0]) (by simp [hj']; simpa using ej)
   exact this.oneCell (List.all_eq_true.1 hone _ (by simp))
  have hnm:n * i.size + m * i.size≤cap' * i.size:=by rw [← Nat.add_mul]; exact Nat.mul_le_mul_right _ hroomc
  have hnl:news'.toList.length=m * i.size:=by simp [hrn.1,hsn]
  have hadd:a'.add (n * i.size)=⟨a'.block,n * i.size,none⟩:=by rw [addr_add a' has',ha0',Nat.zero_add]
  obtain ⟨w',g1,g2,g3,g4,g5,g6,g7⟩:=storeCells_run (P:=P) (a'.add (n * i.size)) (by rw [hadd]) news'.toList 0 w c' e' fr' (by rw [hadd]; exact hr2)
   (by rw [hadd]; simp only [Nat.add_zero]; omega) (fun j _ hj=>hr4 j (by rw [hadd] at hj; simp only [Nat.add_zero] at hj; omega)) hone'
  have hrun:=append_run_room (P:=P) (t:=t) (ty:=ty) ht hi hlen hnr hroomc g1
  rw [hadd] at g2 g3
  simp only [Nat.add_zero] at g2 g3
  have hsl2:SlackOk P (some (tsz P e,(splice c' (n * i.size) news'.toList).size)) (.cells (olds++news) e (1,1)) (.cells (splice c' (n * i.size) news'.toList) e' fr') :=
   ⟨by simp [isSlack],fun z r q=>by cases q; exact ⟨⟨_,_,rfl,rfl⟩,_,_,_,rfl,rfl,fun j hj=>hr4 j (by rw [size_splice] at hj; omega)⟩⟩
  have hle:=Ren.le_bind kk a'.block (some (tsz P e,(splice c' (n * i.size) news'.toList).size))
  have hsz':(h.setIfInBounds a.block deadRow).size=h.size:=by simp
  rw [hsz'] at hle
  have hobj:ObjR ((R.kill a.block).bind h.size a'.block (some (tsz P e,(splice c' (n * i.size) news'.toList).size))) (.cells (olds++news) e (1,1)) (.cells (splice c' (n * i.size) news'.toList) e' fr'):=by
   refine ⟨_,_,_,rfl,by rw [size_splice,Array.size_append]; omega,?_,fun j hj=>?_⟩
   ·intro j v hv
    rw [splice_get _ _ _ _ (by omega)]
    rw [Array.getElem?_append] at hv
    split at hv
    ·rename_i hj
     rw [if_neg (by omega)]
     obtain ⟨c0,e2,fr2,hc0,hsp0,hsz0,rfl⟩:=loadN_inv hold
     rw [Array.getElem?_extract] at hv
     rcases k.row (a:=a) (a':=a') ⟨hsp0,has',.inr ⟨ha,by omega⟩⟩ hc0 with q | ⟨c1,e1,f1,q1,q2,q3,q4,q5,_⟩
     ·subst q
      simp at hv
     ·rw [hr2] at q3
      cases q3
      split at hv
      ·obtain ⟨v',u1,u2⟩:=q5 _ _ hv
       rw [ha0,Nat.zero_add] at u1
       exact ⟨v',u1,(u2.mono hle0).mono hle⟩
      ·cases hv
    ·rename_i hj
     have hjl:j - olds.size < news.size:=(Array.getElem?_eq_some_iff.1 hv).1
     rw [if_pos (by omega)]
     obtain ⟨v',q1,q2⟩:=hrn.get hv
     exact ⟨v',by rw [hso] at q1; simpa using q1,(q2.mono hle0).mono hle⟩
   ·rw [Array.size_append] at hj
    rw [hr4 j (by omega)]; simp [inFr]; omega
  have hsim:=Sim.regrow (w':=w') k ha hslA hsl2 (.inl rfl) g2 (fun x hx _=>g3 x hx) hobj g5 g6 g7 (by omega)
  refine ⟨_,_,_,hrun,?_,hsim⟩
  rw [VR_slice]
  refine ⟨_,_,rfl,.inl ⟨⟨rfl,has',.inr ⟨by simp [Ren.bind],.inl (by simpa using ha0')⟩⟩,.inr (.inl ⟨_,_,by simp [Ren.bind]; exact ⟨rfl,rfl⟩,fun q=>by omega,hroomc,?_⟩)⟩⟩
  rw [size_splice,htz]; simp only; omega
 · -- there is none: a new row
  have hrun:=append_run_grow (ty:=ty) (b:=some a') ht hi hz hlen (by simpa [Builtin.firstCells] using hod) hn (by omega:cap' < n + m) h63 hb
  have hge:=grownCap_ge w (n + m) cap' e
  have hobj:∀ R',R.le R'→ObjR R' (.cells (olds++news) e (1,1)) (.cells (olds'++news'++Builtin.zeroCells z.cells (grownCap w (n + m) cap' e - (n + m))) e (0,0)):=fun R' hl=>grown_obj ((hro.append hrn).monoR hl) e
  have hrs:(olds'++news'++Builtin.zeroCells z.cells (grownCap w (n + m) cap' e - (n + m))).size=grownCap w (n + m) cap' e * i.size:=by
   simp only [Array.size_append,size_zeroCells',hro.1,hrn.1,hso,hsn,hzs,← Nat.add_mul]
   congr 1; omega
  generalize olds'++news'++Builtin.zeroCells z.cells (grownCap w (n + m) cap' e - (n + m))=row at hrun hobj hrs
  have hsl2:SlackOk P (some (tsz P e,row.size)) (.cells (olds++news) e (1,1)) (.cells row e (0,0)):=grown_slack fun i _=>by simp [inFr]
  have hle:=Ren.le_bind kk w.heap.size (some (tsz P e,row.size))
  have hsz':(h.setIfInBounds a.block deadRow).size=h.size:=by simp
  rw [hsz'] at hle
  have hsim:=Sim.regrow (w':=w.drew.alloc (.cells row e)) k ha hslA hsl2 (.inr rfl) (World.alloc_heap_new w.drew _) (fun x _ hx=>heap_alloc_old w.drew _ x hx) (hobj _ (hle0.trans hle)) rfl rfl rfl (by simp)
  refine ⟨_,_,_,hrun,?_,hsim⟩
  rw [VR_slice]
  refine ⟨_,_,rfl,.inl ⟨⟨rfl,rfl,.inr ⟨by simp [Ren.bind],.inl rfl⟩⟩,.inr (.inl ⟨_,_,by simp [Ren.bind]; exact ⟨rfl,rfl⟩,fun q=>by omega,hge,?_⟩)⟩⟩
  rw [hrs,htz]; simp
end

section
variable {P : Program} {R : Ren} {h h' : Heap} {w w' : World}

theorem ArrR.list2 {X:Value→Value→Prop} {a a':Array Value} (h:ArrR X a a') {u v:Value} (e:a.toList=[u,v]):∃ u' v',a'=#[u',v']∧X u u'∧X v v':=by
 obtain ⟨l⟩:=a
 obtain ⟨l'⟩:=a'
 simp only at e; subst e
 have hs:=h.1
 match l',hs with
 | [u',v'],_=>exact ⟨u',v',rfl,h.2 0 _ _ (by simp) (by simp),h.2 1 _ _ (by simp) (by simp)⟩

theorem toList2 {α:Type} {a:Array α} {u v:α} (e:a.toList=[u,v]):a=#[u,v]:=by
 obtain ⟨l⟩:=a; simp only at e; subst e; rfl

set_option maxHeartbeats 2000000 in
theorem storeN_nil {h h1:Heap} {a:Addr} (hst1:storeN h a (#[]:Array Value).toList=some h1):h1=h:=by
 unfold storeN at hst1
 split at hst1
 ·rename_i c1 e1 f1 hc1
  split at hst1
  ·cases hst1
   apply Array.ext_getElem?
   intro j
   rw [Array.getElem?_setIfInBounds]
   split
   ·rename_i ej; subst ej
    have:=(Array.getElem?_eq_some_iff.1 hc1).1
    simp only [this,if_true,splice]
    exact hc1.symm
   ·rfl
  ·cases hst1
 ·cases hst1

theorem appendA_sim (k:Rel P R (hget h) w) {argTypes:Array TypeId} {ty:TypeId} {args args':Array Value} (ha:ArrR (VR R) args args') {v:Value} (hv:appendA P h argTypes args=some (v,h')) :
  StepSim P R h w (Builtin.append_ argTypes ty args') v h':=by
 have kd:Rel P R (hget h) w.drew:=k.of_heap rfl
 unfold appendA at hv
 split at hv
 ·rename_i st xt base n cap xb m c ht1 ht2
  obtain ⟨s',x',rfl,hs,hx⟩:=ha.list2 ht2
  have hat:=toList2 ht1
  subst hat
  split at hv
  ·cases hv
  rename_i hst
  have hst:st=xt:=by simpa using hst
  subst hst
  split at hv
  ·rename_i e hu
   split at hv
   ·rename_i i z hi hz
    split at hv
    ·cases hv
    rename_i hsz
    have hs0:i.size ≠ 0:=fun q=>hsz (.inl q)
    have hzs:z.cells.size=i.size:=Decidable.byContradiction fun q=>hsz (.inr q)
    obtain ⟨_,_,i2,hi2,hiz⟩:=zeroA_run (P:=P) (R:=R) (w:=w) hz
    rw [hi] at hi2; cases hi2
    split at hv
    ·cases hv
    rename_i news hn
    obtain ⟨hlen,news',hnx,hrn,hsn⟩:=newsA_sim (P:=P) k hx hn
    have hn1:=hnx w rfl
    have hn2:=hnx w.drew rfl
    split at hv
    · -- a nil slice
     split at hv
     ·cases hv
     rename_i hnc
     have hn0:n=0:=Decidable.byContradiction fun q=>hnc (.inl q)
     have hc0:cap=0:=Decidable.byContradiction fun q=>hnc (.inr q)
     subst hn0 hc0
     rw [VR_nilslice] at hs
     subst hs
     split at hv
     ·rename_i hm
      cases hv; subst hm
      exact .pure k (append_run_nil hu hi hlen hn1) (by simp)
     ·rename_i hm
      split at hv
      ·rename_i hb
       cases hv
       have:=append_grow_sim (ty:=ty) (b:=none) (n:=0) (cap:=0) (olds:=#[]) (olds':=#[]) k hu hi hiz hs0 hlen (by simp [Builtin.firstCells]) hn2 (ArrR.empty _) hrn (by simp) hsn
        (by omega) (by omega) (by simpa using hb.1) hzs
       simpa using this
      ·cases hv
    ·rename_i a
     rw [VR_slice] at hs
     obtain ⟨a',cap',rfl,hq⟩:=hs
     split at hv
     ·cases hv
     rename_i hd
     rcases hq.symm with hg | ⟨hsa,hca⟩
     ·obtain ⟨g1,rfl,rfl,rfl,g5,g6⟩:=hg
      split at hv
      ·rename_i hroom
       simp only [Option.map_eq_some_iff,Prod.mk.injEq] at hv
       obtain ⟨h1,hst1,rfl,rfl⟩:=hv
       have hm0:m=0:=by omega
       subst hm0
       have hnews:news=#[]:=Array.eq_empty_of_size_eq_zero (by omega)
       have hnews':news'=#[]:=Array.eq_empty_of_size_eq_zero (by rw [hrn.1]; omega)
       subst hnews hnews'
       have hh:=storeN_nil hst1
       subst hh
       refine .pure k (append_run_room hu hi hlen hn1 (by omega) (by simp [storeCells])) ?_
       rw [VR_slice]
       exact ⟨a',0,rfl,.inr ⟨g1,rfl,rfl,rfl,g5,g6⟩⟩
      ·split at hv
       ·rename_i hb
        obtain ⟨hm0,hb1,hb2⟩:=hb
        split at hv
        ·cases hv
        rename_i old hold
        have:old=#[]:=by
         obtain ⟨c0,e0,f0,_,_,q3,q4⟩:=loadN_inv hold
         subst q4; simp; omega
        subst this
        have hplain:=append_grow_sim (ty:=ty) (b:=some a') (n:=0) (cap:=0) (olds:=#[]) (olds':=#[]) k hu hi hiz hs0 hlen (by simp [Builtin.firstCells,loadCells,loadCellsFrom]) hn2 (ArrR.empty _) hrn (by simp) hsn
         (by omega) hb2 hb1 hzs
        split at hv
        ·cases hv; exact hplain
        ·split at hv
         ·cases hv; exact hplain
         ·rename_i hx; exact absurd ⟨rfl,g5⟩ hx
       ·cases hv
     have hnd:R.dead a.block=false:=notdead k (by simpa using hd)
     have hcc:cap≤cap':=by rcases hca with q | ⟨_,_,q⟩ | q; omega; exact q.2.2.1; rw [hnd] at q; cases q
     obtain ⟨hmp,hoff⟩:R.map a.block=some a'.block∧(a'.off=a.off ∨ (n=0∧cap'=0∧R.slack a.block ≠ none)):=by
      rcases hsa.2.2 with q | q
      ·rw [hnd] at q; cases q
      ·exact q
     split at hv
     · -- room
      rename_i hroom
      simp only [Option.map_eq_some_iff,Prod.mk.injEq] at hv
      obtain ⟨h1,hst1,rfl,rfl⟩:=hv
      by_cases hz0:n=0∧cap'=0
      ·have hm0:m=0:=by omega
       subst hm0
       have hnews:news=#[]:=Array.eq_empty_of_size_eq_zero (by omega)
       have hnews':news'=#[]:=Array.eq_empty_of_size_eq_zero (by rw [hrn.1]; omega)
       subst hnews hnews'
       have hh:=storeN_nil hst1
       subst hh
       refine .pure k (append_run_room hu hi hlen hn1 (by omega) (by simp [storeCells])) ?_
       rw [VR_slice]
       refine ⟨a',cap',rfl,.inl ⟨⟨hsa.1,hsa.2.1,.inr ⟨hmp,hoff.imp id fun q=>⟨by omega,hz0.2,q.2.2⟩⟩⟩,hca⟩⟩
      ·have har:AR R a a':=hsa.ar hz0
       obtain ⟨w',g1,g2⟩:=storeN_sim (P:=P) (vs':=news'.toList) k (har.add (n * i.size)) (by simpa using hrn) hst1
       refine ⟨R,w',.slice (some a') (n + m) cap',append_run_room hu hi hlen hn1 (by omega) g1,?_,g2⟩
       rw [VR_slice]
       refine ⟨a',cap',rfl,.inl ⟨⟨hsa.1,hsa.2.1,.inr ⟨hmp,?_⟩⟩,hca⟩⟩
       rcases hoff with q | q
       ·exact .inl q
       ·exact absurd ⟨q.1,q.2.1⟩ hz0
     ·rename_i hroom
      split at hv
      ·rename_i hb
       obtain ⟨hm0,hb1,hb2⟩:=hb
       split at hv
       ·cases hv
       rename_i old hold
       have hz0:∃ olds',(∀ w2:World,w2.heap=w.heap→(loadCells a' (n * i.size)).run P w2=.ok olds' w2)∧ArrR (VR R) old olds'∧old.size=n * i.size:=by
        by_cases hn0:n=0
        ·subst hn0
         obtain ⟨c0,e0,f0,_,_,q3,q4⟩:=loadN_inv hold
         have:old=#[]:=by subst q4; simp; omega
         subst this
         exact ⟨#[],fun _ _=>by simp [loadCells,loadCellsFrom],ArrR.empty _,by simp⟩
        ·exact loadN_sim (P:=P) k (hsa.ar (by omega)) hold
       obtain ⟨olds',ho,hro,hso⟩:=hz0
       have hplain:∀ (hcq:cap'=cap),StepSim P R h w (Builtin.append_ #[st,st] ty #[.slice (some a') n cap',x']) (.slice (some ⟨h.size,0,none⟩) (n + m) (n + m)) (h.push (.cells (old++news) e (1,1))):=fun hcq =>
        append_grow_sim (ty:=ty) (b:=some a') k hu hi hiz hs0 hlen (by simpa [Builtin.firstCells] using ho w.drew rfl) hn2 hro hrn hso hsn (by omega) hb2 hb1 hzs
       split at hv
       ·rename_i hse
        cases hv
        apply hplain
        have:=(slack_map k hmp).1 hse
        rcases hca with q | ⟨_,_,q⟩ | q
        ·exact q
        ·rw [this] at q; cases q.1
        ·rw [hnd] at q; cases q
       ·rename_i e0 hse
        split at hv
        ·rename_i hexact
         cases hv
         apply hplain
         rcases hca with q | ⟨_,_,q⟩ | q
         ·exact q
         ·exact absurd hexact q.2.1
         ·rw [hnd] at q; cases q
        ·rename_i hexact
         split at hv
         ·rename_i hkill
          cases hv
          obtain ⟨ha0,hse2,hone⟩:=hkill
          by_cases hnz:n=0∧cap'=0
          ·exact absurd ⟨by omega,ha0⟩ hexact
          ·have ha0':a'.off=0:=by
            rcases hoff with q | q
            ·omega
            ·exact absurd ⟨q.1,q.2.1⟩ hnz
           refine append_kill_sim (ty:=ty) (cap:=cap) k hu hi hiz hs0 hmp ha0 ha0' hsa.2.1 hse hse2 ?_ hlen (ho w rfl) (ho w.drew rfl) hn1 hn2 hro hrn hso hsn hold hone (by omega) hb2 hb1 hzs
           intro r hr
           rcases hca with q | ⟨z1,r1,q⟩ | q
           ·exact .inr q
           ·rw [hr] at q
            obtain ⟨q0,_,_,q3⟩:=q
            cases q0
            exact .inl (by omega)
           ·rw [hnd] at q; cases q
         ·cases hv
      ·cases hv
   ·cases hv
  ·cases hv
 ·cases hv
end

section
variable {P : Program} {R : Ren} {h h' : Heap} {w w' : World}

/-! ### maps -/
theorem Rel.mapObj (k:Rel P R (hget h) w) {r r':Nat} (hr:BR R r r') {es:Array MapEntry} {ck:Nat} (ho:h[r]?=some (.map es ck)) :
  R.map r=some r'∧∃ es' ck',w.heap[r']?=some (.map es' ck')∧Shuf R es.toList es'.toList ck'∧R.slack r=none:=by
 rcases hr with hd | hm
 ·have:=(k.dead r hd).2
  simp only [hget,ho,deadRow] at this
  cases this
 ·obtain ⟨o,o',h1,h2,h3,h4,_⟩:=k.obj r r' hm
  simp only [hget,ho] at h1
  cases h1
  obtain ⟨es',ck',e,hs⟩:=h3
  refine ⟨hm,es',ck',by rw [h2,e],hs,?_⟩
  cases hq:R.slack r with
  | none=>rfl
  | some p=>rw [hq] at h4; simp [isSlack] at h4
theorem Shuf.size {es es':Array MapEntry} {ck':Nat} (s:Shuf R es.toList es'.toList ck'):es'.size=es.size:=by
 have:=s.perm.length_eq
 simpa using this

def lenA (P:Program) (h:Heap) (t:TypeId) (x:Value):Option Value :=
 match P.underlying t,x with
 | some .string,.string s=>some (goInt s.size)
 | some (.array n _),_=>some (goInt n)
 | some (.slice _),.slice _ n _=>some (goInt n)
 | some (.map _ _),.map none=>some (goInt 0)
 | some (.map _ _),.map (some r)=>match h[r]? with
  | some (.map es _)=>some (goInt es.size)
  | _=>none
 | _,_=>none

theorem lenA_sim (k:Rel P R (hget h) w) {t:TypeId} {ty:TypeId} {ts:Array TypeId} {args':Array Value} (ht:ts[0]?=some t) {x x':Value} (hx':args'[0]?=some x') (hx:VR R x x') {v:Value} (hv:lenA P h t x=some v) :
  (Builtin.len_ ts ty args').run P w=.ok v w∧VR R v v:=by
 unfold lenA at hv
 split at hv
 ·rename_i hu; cases hv; rw [VR_string] at hx; subst hx
  exact ⟨by simp [Builtin.len_,ht,hx',run_underlying hu],by simp [goInt]⟩
 ·rename_i hu; cases hv
  refine ⟨?_,by simp [goInt]⟩
  simp only [Builtin.len_,ht,hx',Sem.run_bind,run_underlying hu,Result.andThen_ok]
  cases x' <;> rfl
 ·rename_i a n c hu; cases hv
  cases a with
  | none=>rw [VR_nilslice] at hx; subst hx; exact ⟨by simp [Builtin.len_,ht,hx',run_underlying hu],by simp [goInt]⟩
  | some a=>rw [VR_slice] at hx; obtain ⟨_,_,rfl,_⟩:=hx; exact ⟨by simp [Builtin.len_,ht,hx',run_underlying hu],by simp [goInt]⟩
 ·rename_i hu; cases hv; rw [VR_nilmap] at hx; subst hx
  exact ⟨by simp [Builtin.len_,ht,hx',run_underlying hu],by simp [goInt]⟩
 ·rename_i r hu
  rw [VR_map] at hx
  obtain ⟨r',rfl,hr⟩:=hx
  split at hv
  ·rename_i es ck ho
   cases hv
   obtain ⟨_,es',ck',h1,h2,_⟩:=k.mapObj hr ho
   refine ⟨?_,by simp [goInt]⟩
   simp [Builtin.len_,ht,hx',run_underlying hu,getObj,Sem.run,h1,h2.size]
  ·cases hv
 ·cases hv

theorem flatV_eq {R:Ren} {v v':Value} (h:flatV v=true) (k:VR R v v'):v'=v:=by
 unfold flatV at h
 split at h
 ·rename_i cs
  rw [VR_agg] at k
  obtain ⟨cs',rfl,h1,h2⟩:=k
  congr 1
  apply Array.ext
  ·exact h1
  ·intro i hi hi'
   exact flatC_eq (Array.all_eq_true_iff_forall_mem.1 h _ (Array.getElem_mem hi')) (h2 i _ _ (by simp [hi']) (by simp [hi]))
 ·exact flatC_eq h k

/-- Keys that are numbers. -/
def keyOk (P:Program) (_:Nat) (t:TypeId) (v:Value):Bool :=
 match P.underlying t,v with
 | some (.int _),.int .i64 _=>true
 | _,_=>false
theorem keyOk_inv {d:Nat} {t:TypeId} {v:Value} (h:keyOk P d t v=true):∃ q x,P.underlying t=some (.int q)∧v=.int .i64 x:=by
 unfold keyOk at h
 split at h
 ·rename_i q x hu; exact ⟨q,x,hu,rfl⟩
 ·cases h
theorem checkKey_run (d n:Nat) (b:Bool) (kt:TypeId) (v:Value) (hn:d≤n) (hd:0 < d) (h:keyOk P d kt v=true):(Instr.checkKey b n kt v).run P w=.ok () w:=by
 obtain ⟨q,x,hu,rfl⟩:=keyOk_inv h
 obtain ⟨n,rfl⟩:∃ m,n=m + 1:=⟨n - 1,by omega⟩
 simp only [Instr.checkKey,Sem.run_bind,run_underlying hu,Result.andThen_ok]; rfl

def findA (P:Program) (kt:TypeId) (k:Value) (es:Array MapEntry):Option (Option (Nat × Value)) :=
 match P.underlying kt with
 | some (.int q)=>Instr.findNow (.int q) k es.toList 0
 | _=>none

theorem findNow_no {q:IntKind} {x:Int}:∀ (L:List MapEntry) (i:Nat),(∀ e ∈ L,∃ y,e.key=.int .i64 y)→(∀ e ∈ L,e.key ≠ .int .i64 x)→Instr.findNow (.int q) (.int .i64 x) L i=some none
 | [],_,_,_=>rfl
 | e :: L,i,h1,h2=>by
  obtain ⟨y,hy⟩:=h1 e (List.mem_cons_self ..)
  have hne:¬ x=y:=fun w=>h2 e (List.mem_cons_self ..) (by rw [hy,w])
  have ih:=findNow_no (q:=q) (x:=x) L (i + 1) (fun e he=>h1 e (List.mem_cons_of_mem _ he)) (fun e he=>h2 e (List.mem_cons_of_mem _ he))
  simp only [Instr.findNow,hy,Instr.sameNow,if_true]
  rw [show (x == y)=false by simpa using hne]
  exact ih
theorem findNow_yes {q:IntKind} {x:Int}:∀ (L:List MapEntry) (i:Nat) (e:MapEntry),(∀ e ∈ L,∃ y,e.key=.int .i64 y)→(L.map (·.key)).Nodup→e ∈ L→e.key=.int .i64 x→∃ j,Instr.findNow (.int q) (.int .i64 x) L i=some (some (i + j,e.val))∧L[j]?=some e
 | [],_,_,_,_,h,_=>by cases h
 | a :: L,i,e,h1,h2,h3,h4=>by
  obtain ⟨y,hy⟩:=h1 a (List.mem_cons_self ..)
  rw [List.map_cons,List.nodup_cons] at h2
  by_cases hxy:x=y
  ·have:e=a:=by
    rcases List.mem_cons.1 h3 with w | w
    ·exact w
    ·exact absurd (List.mem_map_of_mem (f:=fun e:MapEntry=>e.key) w) (by rw [h4,hxy,← hy]; exact h2.1)
   subst this
   refine ⟨0,?_,rfl⟩
   simp only [Instr.findNow,hy,Instr.sameNow,if_true,hxy,beq_self_eq_true,Nat.add_zero]
  ·have hL:e ∈ L:=by
    rcases List.mem_cons.1 h3 with w | w
    ·subst w; rw [hy] at h4; cases h4; exact absurd rfl hxy
    ·exact w
   obtain ⟨j,q1,q2⟩:=findNow_yes (q:=q) (x:=x) L (i + 1) e (fun e he=>h1 e (List.mem_cons_of_mem _ he)) h2.2 hL h4
   refine ⟨j + 1,?_,by simpa using q2⟩
   simp only [Instr.findNow,hy,Instr.sameNow,if_true]
   rw [show (x == y)=false by simpa using hxy,show i + (j + 1)=i + 1 + j by omega]
   exact q1

theorem Shuf.ints' {es es':List MapEntry} {ck':Nat} (s:Shuf R es es' ck'):∀ e ∈ es',∃ x,e.key=.int .i64 x:=by
 intro e he
 have:=s.perm.mem_iff.1 (List.mem_map_of_mem (f:=fun e:MapEntry=>e.key) he)
 obtain ⟨a,ha,e1⟩:=List.mem_map.1 this
 obtain ⟨x,hx⟩:=s.ints a ha
 exact ⟨x,by rw [← hx]; exact e1.symm⟩
theorem Shuf.apart' {es es':List MapEntry} {ck':Nat} (s:Shuf R es es' ck'):(es'.map (·.key)).Nodup:=s.perm.nodup_iff.2 s.apart
theorem Shuf.other {es es':List MapEntry} {ck':Nat} (s:Shuf R es es' ck') {e:MapEntry} (he:e ∈ es):∃ e' ∈ es',e'.key=e.key:=by
 have:=s.perm.mem_iff.2 (List.mem_map_of_mem (f:=fun e:MapEntry=>e.key) he)
 obtain ⟨a,ha,e1⟩:=List.mem_map.1 this
 exact ⟨a,ha,e1⟩
theorem Shuf.other' {es es':List MapEntry} {ck':Nat} (s:Shuf R es es' ck') {e':MapEntry} (he:e' ∈ es'):∃ e ∈ es,e.key=e'.key:=by
 have:=s.perm.mem_iff.1 (List.mem_map_of_mem (f:=fun e:MapEntry=>e.key) he)
 obtain ⟨a,ha,e1⟩:=List.mem_map.1 this
 exact ⟨a,ha,e1⟩

/-- What a search finds, on both sides. -/
theorem findA_sim {kt:TypeId} {k:Value} (hk:keyOk P 8 kt k=true) {es es':Array MapEntry} {ck':Nat} (s:Shuf R es.toList es'.toList ck') {r:Option (Nat × Value)} (hf:findA P kt k es=some r) :
  (r=none→(Instr.findKey kt k es'.toList).run P w=.ok none w∧∀ e ∈ es.toList,e.key ≠ k) ∧
  (∀ j v,r=some (j,v)→∃ e j' e',es.toList[j]?=some e∧e.key=k∧e.val=v∧(Instr.findKey kt k es'.toList).run P w=.ok (some (j',e'.val)) w∧VR R v e'.val∧es'.toList[j']?=some e'∧e'.key=k):=by
 obtain ⟨q,x,hu,rfl⟩:=keyOk_inv hk
 simp only [findA,hu] at hf
 by_cases hx:∃ e ∈ es.toList,e.key=.int .i64 x
 ·obtain ⟨e,he,hek⟩:=hx
  obtain ⟨e',he',hek'⟩:=s.other he
  obtain ⟨j,q1,q2⟩:=findNow_yes (q:=q) es.toList 0 e s.ints s.apart he hek
  obtain ⟨j',p1,p2⟩:=findNow_yes (q:=q) es'.toList 0 e' s.ints' s.apart' he' (hek'.trans hek)
  rw [q1] at hf
  cases hf
  refine ⟨fun w=>(by cases w),fun i v hv=>?_⟩
  cases hv
  refine ⟨e,0 + j',e',by simpa using q2,hek,rfl,?_,s.vals e he e' he' hek',by simpa using p2,hek'.trans hek⟩
  simp [Instr.findKey,run_underlying hu,p1]
 ·have hno:∀ e ∈ es.toList,e.key ≠ .int .i64 x:=fun e he w=>hx ⟨e,he,w⟩
  have hno':∀ e ∈ es'.toList,e.key ≠ .int .i64 x:=fun e' he' w=>by
   obtain ⟨e,he,h1⟩:=s.other' he'
   exact hno e he (h1.trans w)
  rw [findNow_no es.toList 0 s.ints hno] at hf
  cases hf
  refine ⟨fun _=>⟨?_,hno⟩,fun i v hv=>(by cases hv)⟩
  simp [Instr.findKey,run_underlying hu,findNow_no es'.toList 0 s.ints' hno']

/-- The entries of a map value. -/
def entriesA (h:Heap) (x:Value):Option (Array MapEntry) :=
 match x with
 | .map none=>some #[]
 | .map (some r)=>match h[r]? with
  | some (.map es _)=>some es
  | _=>none
 | _=>none

def lookupA (P:Program) (h:Heap) (t:TypeId) (x key:Value) (commaOk:Bool):Option Value :=
 match P.underlying t with
 | some (.map kt et) =>
  if keyOk P 8 kt key=true∧flatV key=true then
   match entriesA h x with
   | some es=>match findA P kt key es with
    | some (some (_,v))=>some (if commaOk then .tuple #[v,.bool true] else v)
    | some none=>(zeroA P et).map fun z=>if commaOk then .tuple #[z,.bool false] else z
    | none=>none
   | none=>none
  else none
 | _=>none

theorem VR_tuple2 {a a' b b':Value} (ha:VR R a a') (hb:VR R b b'):VR R (.tuple #[a,b]) (.tuple #[a',b']):=by
 rw [VR_tuple]
 exact ⟨_,rfl,((ArrR.empty _).push ha).push hb⟩

theorem lookupA_val (k:Rel P R (hget h) w) {t:TypeId} {x x' key key' v:Value} {ok:Bool} (hx:VR R x x') (hk:VR R key key') (hv:lookupA P h t x key ok=some v) :
  ∃ v',(Instr.lookup t x' key' ok).run P w=.ok v' w∧VR R v v':=by
 unfold lookupA at hv
 split at hv
 ·rename_i kt et hu
  split at hv
  ·rename_i hkp
   have hke:=flatV_eq hkp.2 hk
   subst hke
   split at hv
   ·rename_i es hes
    have hent:∃ es' cq,Shuf R es.toList es'.toList cq ∧
      ((x'=.map none∧es'=#[]) ∨ ∃ r' ck,x'=.map (some r')∧(getObj r').run P w=.ok (.map es' ck) w):=by
     unfold entriesA at hes
     split at hes
     ·cases hes; rw [VR_nilmap] at hx; subst hx; exact ⟨#[],0,⟨by simp,by simp,by simp,by simp,by simp,by simp⟩,.inl ⟨rfl,rfl⟩⟩
     ·rename_i r
      rw [VR_map] at hx
      obtain ⟨r',rfl,hr⟩:=hx
      split at hes
      ·rename_i es0 ck ho
       cases hes
       obtain ⟨_,es',cq,h1,h2,_⟩:=k.mapObj hr ho
       exact ⟨es',cq,h2,.inr ⟨r',cq,rfl,by simp [getObj,Sem.run,h1]⟩⟩
      ·cases hes
     ·cases hes
    obtain ⟨es',cq,hs,hrun⟩:=hent
    have hck:∀ b,(Instr.checkKey b 10000 kt key').run P w=.ok () w:=fun b=>checkKey_run 8 10000 b kt key' (by omega) (by omega) hkp.1
    have hlook:∀ (f:Option (Nat × Value)),(Instr.findKey kt key' es'.toList).run P w=.ok f w→(Instr.lookup t x' key' ok).run P w =
      ((match f with | some (_,v)=>pure (v,true) | none=>(do pure (← zeroValue et,false)):Sem (Value × Bool)).run P w).andThen fun p w1=>.ok (if ok then .tuple #[p.1,.bool p.2] else p.1) w1:=by
     intro f hf
     unfold Instr.lookup
     simp only [Sem.run_bind,run_underlying hu,Result.andThen_ok]
     rcases hrun with ⟨rfl,rfl⟩ | ⟨r',ck,rfl,hg⟩
     ·simp at hf
      cases f with
      | none=>cases hz:(zeroValue et).run P w <;> simp [hck,hf,hz]
      | some p=>simp [hck,hf]
     ·cases f with
      | none=>cases hz:(zeroValue et).run P w <;> simp [hg,hck,hf,hz]
      | some p=>simp [hg,hck,hf]
    split at hv
    ·rename_i j u hf
     cases hv
     obtain ⟨_,_,e',_,_,_,q1,q2,_⟩:=(findA_sim (w:=w) hkp.1 hs hf).2 j u rfl
     refine ⟨if ok then .tuple #[e'.val,.bool true] else e'.val,by rw [hlook _ q1]; simp,?_⟩
     split
     ·exact VR_tuple2 q2 (by simp)
     ·exact q2
    ·rename_i hf
     simp only [Option.map_eq_some_iff] at hv
     obtain ⟨z,hz,rfl⟩:=hv
     obtain ⟨g1,g2,_⟩:=zeroA_run (P:=P) (R:=R) (w:=w) hz
     have q1:=((findA_sim (w:=w) hkp.1 hs hf).1 rfl).1
     refine ⟨if ok then .tuple #[z,.bool false] else z,by rw [hlook _ q1]; simp [g1],?_⟩
     split
     ·exact VR_tuple2 g2 (by simp)
     ·exact g2
    ·cases hv
   ·cases hv
  ·cases hv
 ·cases hv
theorem lookupA_sim (k:Rel P R (hget h) w) {t:TypeId} {x x' key key' v:Value} {ok:Bool} (hx:VR R x x') (hk:VR R key key') (hv:lookupA P h t x key ok=some v) :
  StepSim P R h w (Instr.lookup t x' key' ok) v h:=by
 obtain ⟨v',h1,h2⟩:=lookupA_val k hx hk hv
 exact .pure k h1 h2
end

section
variable {P : Program} {R : Ren} {h h' : Heap} {w w' : World}

theorem Sim.putMap (k:Rel P R (hget h) w) {r r':Nat} (hm:R.map r=some r') {es es' es1:Array MapEntry} {ck ck1 ck':Nat} (hw:w.heap[r']?=some (.map es1 ck1)) (hs:Shuf R es.toList es'.toList ck') (hsl:R.slack r=none) :
  Sim P R h w R (h.setIfInBounds r (.map es ck)) { w with heap:=w.heap.setIfInBounds r' (.map es' ck') }:=by
 have hlt:=(Array.getElem?_eq_some_iff.1 hw).1
 refine Sim.put k hm (o':=.map es' ck') ⟨es',ck',rfl,hs⟩ ⟨by rw [hsl]; simp [isSlack],fun z r q=>by rw [hsl] at q; cases q⟩ (by simp [hlt]) ?_ (by simp) rfl rfl rfl (fun _=>by rw [hw]; trivial)
 intro x hx
 simp only [Array.getElem?_setIfInBounds]
 rw [if_neg (by omega)]

theorem map_modify_same {β:Type} {L:List MapEntry} {j:Nat} {e:MapEntry} {f:MapEntry→MapEntry} {g:MapEntry→β} (h:L[j]?=some e) (hg:g (f e)=g e):(L.modify j f).map g=L.map g:=by
 apply List.ext_getElem?
 intro i
 rw [List.getElem?_map,List.getElem?_map,List.getElem?_modify]
 by_cases hij:j=i
 ·subst hij; rw [h]; simp [hg]
 ·simp [hij]
theorem mem_modify_key {L:List MapEntry} {j:Nat} {e e0:MapEntry} {f:MapEntry→MapEntry} (hn:(L.map (·.key)).Nodup) (h:L[j]?=some e) (h0:e0 ∈ L.modify j f):e0=f e ∨ (e0 ∈ L∧e0.key ≠ e.key):=by
 obtain ⟨i,hi⟩:=List.mem_iff_getElem?.1 h0
 rw [List.getElem?_modify] at hi
 by_cases hij:j=i
 ·subst hij; rw [h] at hi; simp at hi; exact .inl hi.symm
 ·simp [hij] at hi
  refine .inr ⟨List.mem_of_getElem? hi,fun w=>hij ?_⟩
  have h1:(L.map (·.key))[j]?=some e.key:=by rw [List.getElem?_map,h]; rfl
  have h2:(L.map (·.key))[i]?=some e.key:=by rw [List.getElem?_map,hi,← w]; rfl
  obtain ⟨l1,_⟩:=List.getElem?_eq_some_iff.1 h1
  exact (List.getElem?_inj l1 hn).1 (h1.trans h2.symm)
theorem Shuf.set {es es':List MapEntry} {ck':Nat} (s:Shuf R es es' ck') {k v v':Value} {j j':Nat} {e e':MapEntry} (h1:es[j]?=some e) (h2:e.key=k) (h3:es'[j']?=some e') (h4:e'.key=k) (hv:VR R v v') :
  Shuf R (es.modify j fun e=>{ e with key:=k,val:=v }) (es'.modify j' fun e=>{ e with key:=k,val:=v' }) ck':=by
 have k1:(es.modify j fun e=>{ e with key:=k,val:=v }).map (·.key)=es.map (·.key):=map_modify_same h1 h2.symm
 have k2:(es'.modify j' fun e=>{ e with key:=k,val:=v' }).map (·.key)=es'.map (·.key):=map_modify_same h3 h4.symm
 have k3:(es'.modify j' fun e=>{ e with key:=k,val:=v' }).map (·.born)=es'.map (·.born):=map_modify_same h3 rfl
 refine ⟨fun a ha=>?_,by rw [k1]; exact s.apart,by rw [k1,k2]; exact s.perm,fun a ha b hb hab=>?_,fun b hb=>?_,by rw [k3]; exact s.borns⟩
 ·rcases mem_modify_key s.apart h1 ha with rfl | ⟨w,_⟩
  ·obtain ⟨x,hx⟩:=s.ints e (List.mem_of_getElem? h1); exact ⟨x,by rw [← hx]; exact h2.symm⟩
  ·exact s.ints a w
 ·rcases mem_modify_key s.apart h1 ha with rfl | ⟨w,wn⟩ <;> rcases mem_modify_key s.apart' h3 hb with rfl | ⟨u,un⟩
  ·exact hv
  ·exact absurd (hab.trans h4.symm) un
  ·exact absurd (hab.symm.trans h2.symm) wn
  ·exact s.vals a w b u hab
 ·have:b.born ∈ (es'.modify j' fun e=>{ e with key:=k,val:=v' }).map (·.born):=List.mem_map_of_mem (f:=fun e:MapEntry=>e.born) hb
  rw [k3] at this
  obtain ⟨c,hc,e1⟩:=List.mem_map.1 this
  rw [← e1]; exact s.born c hc
theorem Shuf.push {es es':List MapEntry} {ck ck':Nat} (s:Shuf R es es' ck') {x:Int} {v v':Value} (hn:∀ e ∈ es,e.key ≠ .int .i64 x) (hv:VR R v v') :
  Shuf R (es++[{ key:=.int .i64 x,val:=v,born:=ck }]) (es'++[{ key:=.int .i64 x,val:=v',born:=ck' }]) (ck' + 1):=by
 have hn':∀ e ∈ es',e.key ≠ .int .i64 x:=fun e' he' w=>by
  obtain ⟨e,he,h1⟩:=s.other' he'
  exact hn e he (h1.trans w)
 refine ⟨fun a ha=>?_,?_,?_,fun a ha b hb hab=>?_,fun b hb=>?_,?_⟩
 ·rcases List.mem_append.1 ha with w | w
  ·exact s.ints a w
  ·exact ⟨x,by rw [List.mem_singleton.1 w]⟩
 ·rw [List.map_append,List.nodup_append]
  refine ⟨s.apart,by simp,fun a ha b hb=>?_⟩
  obtain ⟨c,hc,rfl⟩:=List.mem_map.1 ha
  simp only [List.map_cons,List.map_nil,List.mem_singleton] at hb
  rw [hb]; exact hn c hc
 ·rw [List.map_append,List.map_append]; exact s.perm.append (List.Perm.refl _)
 ·rcases List.mem_append.1 ha with w | w <;> rcases List.mem_append.1 hb with u | u
  ·exact s.vals a w b u hab
  ·rw [List.mem_singleton.1 u] at hab; exact absurd hab.symm (hn a w)
  ·rw [List.mem_singleton.1 w] at hab; exact absurd hab (hn' b u)
  ·rw [List.mem_singleton.1 w,List.mem_singleton.1 u]; exact hv
 ·rcases List.mem_append.1 hb with u | u
  ·have:=s.born b u; omega
  ·rw [List.mem_singleton.1 u]; exact Nat.lt_succ_self _
 ·rw [List.map_append,List.nodup_append]
  refine ⟨s.borns,by simp,fun a ha b hb=>?_⟩
  obtain ⟨c,hc,rfl⟩:=List.mem_map.1 ha
  simp only [List.map_cons,List.map_nil,List.mem_singleton] at hb
  have:=s.born c hc
  rw [hb]; omega

def mapUpdateA (P:Program) (h:Heap) (t:TypeId) (x key v:Value):Option Heap :=
 match P.underlying t,x with
 | some (.map kt _),.map (some r) =>
  if keyOk P 8 kt key=true∧flatV key=true then
   match h[r]? with
   | some (.map es ck)=>match findA P kt key es with
    | some (some (i,_))=>some (h.setIfInBounds r (.map (es.modify i fun e=>{ e with key:=key,val:=v }) ck))
    | some none=>some (h.setIfInBounds r (.map (es.push { key:=key,val:=v,born:=ck }) (ck + 1)))
    | none=>none
   | _=>none
  else none
 | _,_=>none

theorem mapUpdateA_sim (k:Rel P R (hget h) w) {t:TypeId} {x x' key key' v v':Value} (hx:VR R x x') (hk:VR R key key') (hvv:VR R v v') (hv:mapUpdateA P h t x key v=some h') :
  ∃ w',(Instr.mapUpdate t x' key' v').run P w=.ok () w'∧Sim P R h w R h' w':=by
 unfold mapUpdateA at hv
 split at hv
 ·rename_i kt et r hu
  rw [VR_map] at hx
  obtain ⟨r',rfl,hr⟩:=hx
  split at hv
  ·rename_i hkp
   have hke:=flatV_eq hkp.2 hk
   subst hke
   split at hv
   ·rename_i es ck ho
    obtain ⟨hm,es',ck',h1,h2,h4⟩:=k.mapObj hr ho
    have hg:(getObj r').run P w=.ok (.map es' ck') w:=by simp [getObj,Sem.run,h1]
    have hset:∀ o,(setObj r' o).run P w=.ok () { w with heap:=w.heap.setIfInBounds r' o }:=fun o=>by simp [setObj,Sem.run,h1]
    have hck:(Instr.checkKey false 10000 kt key').run P w=.ok () w:=checkKey_run 8 10000 false kt key' (by omega) (by omega) hkp.1
    split at hv
    ·rename_i i u hf
     cases hv
     obtain ⟨e,j',e',p1,p2,p3,q1,q2,q3,q4⟩:=(findA_sim (w:=w) hkp.1 h2 hf).2 i u rfl
     have q3':es'[j']?=some e':=by simpa using q3
     have hsb:Instr.sameBits 10000 e'.key key'=true:=by
      obtain ⟨q,x,_,rfl⟩:=keyOk_inv hkp.1
      rw [q4]; simp [Instr.sameBits]
     have hstay:(Instr.keyThatStays (((es'[j']?).map (·.key)).getD key') key').run P w=.ok key' w:=by
      simp [Instr.keyThatStays,q3',hsb]
     refine ⟨_,?_,Sim.putMap k hm (es':=es'.modify j' fun e=>{ e with key:=key',val:=v' }) (ck':=ck') h1 ?_ h4⟩
     ·simp only [Instr.mapUpdate,Sem.run_bind,run_underlying hu,Result.andThen_ok,hg,hck,q1,hstay,hset]
     ·rw [Array.toList_modify,Array.toList_modify]
      exact h2.set p1 p2 q3 q4 hvv
    ·rename_i hf
     cases hv
     obtain ⟨q1,hn⟩:=(findA_sim (w:=w) hkp.1 h2 hf).1 rfl
     refine ⟨_,?_,Sim.putMap k hm (es':=es'.push { key:=key',val:=v',born:=ck' }) (ck':=ck' + 1) h1 ?_ h4⟩
     ·simp only [Instr.mapUpdate,Sem.run_bind,run_underlying hu,Result.andThen_ok,hg,hck,q1,hset]
     ·obtain ⟨q,x,_,rfl⟩:=keyOk_inv hkp.1
      rw [Array.toList_push,Array.toList_push]
      exact h2.push hn hvv
    ·cases hv
   ·cases hv
  ·cases hv
 ·cases hv

/-- m[k] op= v, and delete: not in this machine. -/
def mapEntryA (_:Program) (_:Heap) (_:TypeId) (_ _:Value):Option (Value × Heap):=none
theorem mapEntryA_sim (_:Rel P R (hget h) w) {t:TypeId} {x x' key key' v:Value} (_:VR R x x') (_:VR R key key') (hv:mapEntryA P h t x key=some (v,h')) :
  StepSim P R h w (Instr.mapEntry t x' key') v h':=by cases hv
def entryStoreA (_:Heap) (_ _ _:Value):Option Heap:=none
theorem entryStoreA_sim (_:Rel P R (hget h) w) {t:TypeId} {x x' stamp stamp' v v':Value} (_:VR R x x') (_:VR R stamp stamp') (_:VR R v v') (hv:entryStoreA h x stamp v=some h') :
  ∃ w',(Instr.entryStore t x' stamp' v').run P w=.ok () w'∧Sim P R h w R h' w':=by cases hv
def deleteA (_:Program) (_:Heap) (_:TypeId) (_ _:Value):Option Heap:=none
theorem deleteA_sim (_:Rel P R (hget h) w) {t ty:TypeId} {ts:Array TypeId} {args':Array Value} {x x' key key':Value} (_:ts[0]?=some t) (_:args'[0]?=some x') (_:args'[1]?=some key')
  (_:VR R x x') (_:VR R key key') (hv:deleteA P h t x key=some h') :
  ∃ w',(Builtin.delete_ ts ty args').run P w=.ok (.tuple #[]) w'∧Sim P R h w R h' w':=by cases hv

/-- A loop over the runes of a text begins, and goes on. -/
def rangeA (P:Program) (h:Heap) (t:TypeId) (x:Value):Option (Value × Heap) :=
 match P.underlying t,x with
 | some .string,.string s=>some (.pointer (some ⟨h.size,0,none⟩),h.push (.stringIter s 0))
 | _,_=>none
def nextA (h:Heap) (it:Value) (isString:Bool):Option (Value × Heap) :=
 match it,isString with
 | .pointer (some ⟨r,0,none⟩),true=>match h[r]? with
  | some (.stringIter s pos) =>
   if pos < s.size then some (.tuple #[.bool true,goInt pos,.int .i32 (Utf8.decode s pos).1],h.setIfInBounds r (.stringIter s (pos + (Utf8.decode s pos).2)))
   else some (.tuple #[.bool false],h)
  | _=>none
 | _,_=>none

theorem rangeA_sim (k:Rel P R (hget h) w) {t:TypeId} {x x' v:Value} (hx:VR R x x') (hv:rangeA P h t x=some (v,h')):StepSim P R h w (Instr.range t x') v h':=by
 unfold rangeA at hv
 split at hv
 ·rename_i s hu
  cases hv
  rw [VR_string] at hx
  subst hx
  have hs:=Sim.alloc k (o:=.stringIter s 0) (o':=.stringIter s 0) (sl:=none) ⟨by simp [isSlack],fun z r e=>by cases e⟩ rfl
  refine ⟨_,_,.pointer (some ⟨w.heap.size,0,none⟩),?_,by rw [VR_ptr]; exact ⟨_,rfl,rfl,rfl,.inr ⟨by simp [Ren.bind],rfl⟩⟩,hs⟩
  simp [Instr.range,run_underlying hu,run_newObj_alloc]
 ·cases hv

theorem nextA_sim (k:Rel P R (hget h) w) {ty:TypeId} {x x' v:Value} {b:Bool} (hx:VR R x x') (hv:nextA h x b=some (v,h')):StepSim P R h w (Instr.next x' b ty) v h':=by
 unfold nextA at hv
 split at hv
 ·rename_i r
  rw [VR_ptr] at hx
  obtain ⟨⟨r',o2,sp⟩,rfl,_,hsp,hq⟩:=hx
  simp only at hsp
  subst hsp
  split at hv
  ·rename_i s pos ho
   have key:R.map r=some r'∧o2=0∧w.heap[r']?=some (.stringIter s pos)∧R.slack r=none:=by
    rcases hq with hd | ⟨hm,ho2⟩
    ·have:=(k.dead r hd).2
     simp only [hget,ho,deadRow] at this
     cases this
    ·obtain ⟨p,p',h1,h2,h3,h4,_⟩:=k.obj r r' hm
     simp only [hget,ho] at h1
     cases h1
     simp only [ObjR] at h3
     subst h3
     refine ⟨hm,ho2,h2,?_⟩
     cases hs:R.slack r with
     | none=>rfl
     | some q=>rw [hs] at h4; simp [isSlack] at h4
   obtain ⟨hm,rfl,hw,hsl⟩:=key
   have hg:(getObj r').run P w=.ok (.stringIter s pos) w:=by simp [getObj,Sem.run,hw]
   have hset:∀ o,(setObj r' o).run P w=.ok () { w with heap:=w.heap.setIfInBounds r' o }:=fun o=>by simp [setObj,Sem.run,hw]
   split at hv
   ·rename_i hlt
    cases hv
    have hl:=(Array.getElem?_eq_some_iff.1 hw).1
    refine ⟨R,{ w with heap:=w.heap.setIfInBounds r' (.stringIter s (pos + (Utf8.decode s pos).2)) },.tuple #[.bool true,goInt pos,.int .i32 (Utf8.decode s pos).1],?_,?_,Sim.put k hm (o':=.stringIter s (pos + (Utf8.decode s pos).2)) rfl ⟨by rw [hsl]; simp [isSlack],fun z r q=>by rw [hsl] at q; cases q⟩ (by simp [hl]) ?_ (by simp) rfl rfl rfl (fun _=>by rw [hw]; trivial)⟩
    ·simp [Instr.next,hg,hlt,hset]
    ·rw [VR_tuple]; exact ⟨_,rfl,(((ArrR.empty _).push (by simp)).push (by simp [goInt])).push (by simp)⟩
    ·intro x hx
     simp only [Array.getElem?_setIfInBounds]
     rw [if_neg (by omega)]
   ·rename_i hlt
    cases hv
    exact StepSim.pure k (v':=.tuple #[.bool false]) (by simp [Instr.next,hg,hlt]) (by rw [VR_tuple]; exact ⟨_,rfl,(ArrR.empty _).push (by simp)⟩)
  ·cases hv
 ·cases hv

theorem makeMap_sim (k:Rel P R (hget h) w) (t:TypeId):StepSim P R h w (Instr.makeMap t none) (.map (some h.size)) (h.push (.map #[] 0)):=by
 have hs:=Sim.alloc k (o:=.map #[] 0) (o':=.map #[] 0) (sl:=none) ⟨by simp [isSlack],fun z r e=>by cases e⟩ ⟨#[],0,rfl,⟨by simp,by simp,by simp,by simp,by simp,by simp⟩⟩
 refine ⟨_,_,.map (some w.heap.size),?_,by rw [VR_map]; exact ⟨_,rfl,.inr (by simp [Ren.bind])⟩,hs⟩
 simp [Instr.makeMap,run_newObj_alloc]

def makeSliceA (P:Program) (h:Heap) (t:TypeId) (l c:Value):Option (Value × Heap) :=
 match P.underlying t,l,c with
 | some (.slice e),.int _ l,.int _ c =>
  match P.info? e,zeroA P e with
  | some i,some z =>
   if 0≤l∧l≤c∧c≤9223372036854775807∧(i.bytes:Int) * c≤281474976710656∧z.cells.size=i.size∧i.size ≠ 0 then
    some (.slice (some ⟨h.size,0,none⟩) l.toNat c.toNat,h.push (.cells ((Array.range (c.toNat * i.size)).map (z.cells[· % z.cells.size]!)) e (0,0)))
   else none
  | _,_=>none
 | _,_,_=>none

theorem wrap_id {n:Int} (h0:0≤n) (h1:n≤9223372036854775807):IntKind.i64.wrap n=n:=by
 rw [IntKind.wrap_i64]; omega

theorem makeSliceA_sim (k:Rel P R (hget h) w) {t:TypeId} {l l' c c' v:Value} (hl:VR R l l') (hc:VR R c c') (hv:makeSliceA P h t l c=some (v,h')):StepSim P R h w (Instr.makeSlice t l' c') v h':=by
 unfold makeSliceA at hv
 split at hv
 ·rename_i e k1 l k2 c hu
  rw [VR_int] at hl hc
  subst hl hc
  split at hv
  ·rename_i i z hi hz
   split at hv
   ·rename_i hb
    obtain ⟨b1,b2,b3,b4,b5,b6⟩:=hb
    cases hv
    obtain ⟨g1,g2,_⟩:=zeroA_run (P:=P) (R:=R) (w:=w) hz
    obtain ⟨R',w',q1,q2,q3,q4⟩:=newRow_sim (P:=P) k (zrow_rel g2.cells (c.toNat * i.size) (fun _=>by omega)) e
    refine ⟨R',w',.slice (some ⟨w.heap.size,0,none⟩) l.toNat c.toNat,?_,?_,q4⟩
    ·have w1:=wrap_id (n:=l) (by omega) (by omega)
     have w2:=wrap_id (n:=c) (by omega) (by omega)
     have c1:¬ (c < 0):=by omega
     have c2:¬ (281474976710656 < (i.bytes:Int) * c):=by omega
     have c3:¬ (l < 0):=by omega
     have c4:¬ (c < l):=by omega
     by_cases h0:c.toNat * i.size=0
     ·have h00:c.toNat=0:=by
       rcases Nat.mul_eq_zero.1 h0 with q | q
       ·exact q
       ·exact absurd q b6
      have hc0:c=0:=by omega
      subst hc0
      have hl0:l=0:=by omega
      subst hl0
      have e0:Array.range 0=#[]:=rfl
      simp [e0] at q1
      simp [Instr.makeSlice,run_underlying hu,asInt,asIntOf,sizeOf,typeInfo,hi,w1,q1,e0]
     ·have h00:¬ (c.toNat=0):=fun q=>h0 (by rw [q]; simp)
      have h01:¬ (c≤0):=by omega
      simp [Instr.makeSlice,run_underlying hu,asInt,asIntOf,sizeOf,typeInfo,hi,w1,w2,c1,c2,c3,c4,g1,q1,h01,b6]
      intro q; exact absurd q h0
    ·rw [VR_slice]
     exact ⟨_,_,rfl,.inl ⟨⟨rfl,rfl,by rcases q2.2.2 with q | q; exact .inl q; exact .inr ⟨q.1,.inl q.2⟩⟩,.inl rfl⟩⟩
   ·cases hv
  ·cases hv
 ·cases hv

/-- The numbers of bytes. -/
def byteNums:List Value→Option (List Int)
 | []=>some []
 | .int .u8 n :: r=>(byteNums r).map (n :: ·)
 | _ :: _=>none

theorem byteNums_rel:∀ (l l':List Value) (ns:List Int),ArrR (VR R) l.toArray l'.toArray→byteNums l=some ns→l'=ns.map (Value.int .u8)
 | [],l',ns,hr,hb=>by
  simp [byteNums] at hb; subst hb
  have:=hr.1; simp at this; simpa using this
 | v :: l,[],ns,hr,hb=>by have:=hr.1; simp at this
 | v :: l,v' :: l',ns,hr,hb=>by
  have h0:VR R v v':=hr.2 0 v v' (by simp) (by simp)
  unfold byteNums at hb
  split at hb
  ·rename_i heq; cases heq
  ·rename_i n r heq
   cases heq
   simp only [Option.map_eq_some_iff] at hb
   obtain ⟨ms,hm,rfl⟩:=hb
   rw [VR_int] at h0; subst h0
   have ih:=byteNums_rel l l' ms ⟨by have:=hr.1; simpa using this,fun i u u' hu hu'=>hr.2 (i + 1) u u' (by simpa using hu) (by simpa using hu')⟩ hm
   simp [ih]
  ·cases hb

def bytesStrA (P:Program) (h:Heap) (src dst:TypeId) (x:Value):Option Value :=
 match P.underlying src,P.underlying dst,x with
 | some (.slice e),some .string,.slice (some a) n _ =>
  match P.underlying e with
  | some (.int .u8)=>((loadN h a n).bind fun cs=>byteNums cs.toList).map fun ns=>.string (ns.foldl (fun r n=>r.push (UInt8.ofNat n.toNat)) ByteArray.empty)
  | _=>none
 | some (.slice e),some .string,.slice none _ _ =>
  match P.underlying e with
  | some (.int .u8)=>some (.string .empty)
  | _=>none
 | _,_,_=>none

theorem bytesStrA_sim (k:Rel P R (hget h) w) {src dst:TypeId} {x x' v:Value} (hx:VR R x x') (hv:bytesStrA P h src dst x=some v):(convert src dst x').run P w=.ok v w∧VR R v v:=by
 unfold bytesStrA at hv
 split at hv
 ·rename_i e a n c hs hd
  rw [VR_slice] at hx
  obtain ⟨a',c',rfl,hq⟩:=hx
  split at hv
  ·rename_i he
   have hconv:(convert src dst (.slice (some a') n c')).run P w=(Conv.bytesToString (.slice (some a') n c')).run P w:=by
    simp [convert,run_underlying hs,run_underlying hd,run_underlying he]
   rw [hconv]
   simp only [Option.map_eq_some_iff,Option.bind_eq_some_iff] at hv
   obtain ⟨ns,⟨cs,hcs,hb⟩,rfl⟩:=hv
   by_cases h0:n=0
   ·subst h0
    obtain ⟨c0,e0,f0,_,_,q3,q4⟩:=loadN_inv hcs
    have:cs=#[]:=by subst q4; simp; omega
    subst this
    simp only [byteNums,Option.some.injEq] at hb
    subst hb
    exact ⟨run_bytesToString w a' 0 c' [] (by simp [loadCells,loadCellsFrom]),by simp⟩
   ·obtain ⟨cs',g1,g2,g3⟩:=loadN_sim (P:=P) k ((hq.resolve_right fun g=>h0 g.2.1).1.ar (by omega)) hcs
    have:=byteNums_rel cs.toList cs'.toList ns (by simpa using g2) hb
    refine ⟨run_bytesToString w a' n c' ns ?_,by simp⟩
    rw [g1 w rfl,← this]
  ·cases hv
 ·rename_i e n c hs hd
  rw [VR_nilslice] at hx; subst hx
  split at hv
  ·rename_i he
   cases hv
   exact ⟨by simp [convert,run_underlying hs,run_underlying hd,run_underlying he,Conv.bytesToString],by simp⟩
  ·cases hv
 ·cases hv

theorem max2_sim {x x' y y' v:Value} (hx:VR R x x') (hy:VR R y y') (hv:max2A x y=some v):(Builtin.max2 x' y').run P w=.ok v w∧VR R v v:=by
 unfold max2A at hv
 split at hv
 ·cases hv; rw [VR_int] at hx hy; subst hx hy; exact ⟨by simp [Builtin.max2],by simp⟩
 ·cases hv; rw [VR_string] at hx hy; subst hx hy
  exact ⟨by simp [Builtin.max2,Op.stringOp,asBool],by simp⟩
 ·cases hv
theorem min2_sim {x x' y y' v:Value} (hx:VR R x x') (hy:VR R y y') (hv:min2A x y=some v):(Builtin.min2 x' y').run P w=.ok v w∧VR R v v:=by
 unfold min2A at hv
 split at hv
 ·cases hv; rw [VR_int] at hx hy; subst hx hy; exact ⟨by simp [Builtin.min2],by simp⟩
 ·cases hv; rw [VR_string] at hx hy; subst hx hy
  exact ⟨by simp [Builtin.min2,Op.stringOp,asBool],by simp⟩
 ·cases hv

theorem foldM_sim {f:Value→Value→Option Value} {g:Value→Value→Sem Value} (hfg:∀ x x' y y' v,VR R x x'→VR R y y'→f x y=some v→(g x' y').run P w=.ok v w∧VR R v v) :
  ∀ (l l':List Value) (x x' v:Value),VR R x x'→ArrR (VR R) l.toArray l'.toArray→l.foldlM f x=some v→∃ v',(l'.foldlM g x').run P w=.ok v' w∧VR R v v'
 | [],l',x,x',v,hx,hl,hf=>by
  have:=hl.1; simp at this; subst this
  simp at hf; subst hf
  exact ⟨x',by simp,hx⟩
 | y :: l,[],x,x',v,hx,hl,hf=>by have:=hl.1; simp at this
 | y :: l,y' :: l',x,x',v,hx,hl,hf=>by
  have h0:VR R y y':=hl.2 0 y y' (by simp) (by simp)
  simp only [List.foldlM_cons,Option.bind_eq_bind,Option.bind_eq_some_iff] at hf
  obtain ⟨u,hu,hf⟩:=hf
  obtain ⟨g1,g2⟩:=hfg x x' y y' u hx h0 hu
  obtain ⟨v',q1,q2⟩:=foldM_sim hfg l l' u u v g2 ⟨by have:=hl.1; simpa using this,fun i a a' ha ha'=>hl.2 (i + 1) a a' (by simpa using ha) (by simpa using ha')⟩ hf
  exact ⟨v',by simp [g1,q1],q2⟩

theorem maxA_sim {ts:Array TypeId} {ty:TypeId} {args args':Array Value} {v:Value} (hr:ArrR (VR R) args args') (hv:maxA args.toList=some v):∃ v',(Builtin.max_ ts ty args').run P w=.ok v' w∧VR R v v':=by
 obtain ⟨l⟩:=args
 obtain ⟨l'⟩:=args'
 unfold maxA at hv
 unfold Builtin.max_
 cases l with
 | nil=>simp at hv
 | cons x l =>
  cases l' with
  | nil=>have:=hr.1; simp at this
  | cons x' l' =>
   exact foldM_sim (fun x x' y y' v hx hy hf=>max2_sim hx hy hf) l l' x x' v (hr.2 0 x x' (by simp) (by simp))
    ⟨by have:=hr.1; simpa using this,fun i a a' ha ha'=>hr.2 (i + 1) a a' (by simpa using ha) (by simpa using ha')⟩ hv
theorem minA_sim {ts:Array TypeId} {ty:TypeId} {args args':Array Value} {v:Value} (hr:ArrR (VR R) args args') (hv:minA args.toList=some v):∃ v',(Builtin.min_ ts ty args').run P w=.ok v' w∧VR R v v':=by
 obtain ⟨l⟩:=args
 obtain ⟨l'⟩:=args'
 unfold minA at hv
 unfold Builtin.min_
 cases l with
 | nil=>simp at hv
 | cons x l =>
  cases l' with
  | nil=>have:=hr.1; simp at this
  | cons x' l' =>
   exact foldM_sim (fun x x' y y' v hx hy hf=>min2_sim hx hy hf) l l' x x' v (hr.2 0 x x' (by simp) (by simp))
    ⟨by have:=hr.1; simpa using this,fun i a a' ha ha'=>hr.2 (i + 1) a a' (by simpa using ha) (by simpa using ha')⟩ hv
end
end Go.AM
