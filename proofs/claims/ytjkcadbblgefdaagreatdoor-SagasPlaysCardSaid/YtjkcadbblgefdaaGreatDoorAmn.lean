/- An abstract machine for Go, part 14: the rules of code are sound. -/
import Derived.Test.YtjkcadbblgefdaaGreatDoorAmm
namespace Go.AM

section
variable {P : Program} {R : Ren} {h h1 h2 h' : Heap} {w w' : World} {ro : Option Nat} {a a1 a2 : Act} {x : Exit}

theorem sound_plain {c:Code} (hc:∀ body,c ≠ .loop body)
  (hs:∀ (R:Ren) (w:World) (a':Act) (ro':Option Nat),Rel P R (hget h) w→ActR R a a'→RoR R ro ro'→∀ (Q:Exit→Act→World→Prop),
   (∀ R1 w1 a1',Sim P R h w R1 h1 w1→ActR R1 a1 a1'→Q x a1' w1)→∀ (n:Nat),c.wpIn (wideR ro') n P Q a' w):SoundCode P ro c a h x a1 h1 :=
 fun R w a' ro' k ka kr Q hq n=>⟨hs R w a' ro' k ka kr Q hq n,fun body e=>absurd e (hc body)⟩

theorem sound_skip:SoundCode P ro .skip a h .normal a h :=
 sound_plain (fun _ e=>by cases e) fun R w a' ro' k ka kr Q hq n=>wpIn_skip (hq R w a' (.refl k) ka)
theorem sound_label {l:Nat}:SoundCode P ro (.label l) a h .normal a h :=
 sound_plain (fun _ e=>by cases e) fun R w a' ro' k ka kr Q hq n=>wpIn_label (hq R w a' (.refl k) ka)
theorem sound_exit {id:Nat}:SoundCode P ro (.exit id) a h (.exit id) a h :=
 sound_plain (fun _ e=>by cases e) fun R w a' ro' k ka kr Q hq n=>wpIn_exit (hq R w a' (.refl k) ka)
theorem sound_ret:SoundCode P ro .ret a h .ret a h :=
 sound_plain (fun _ e=>by cases e) fun R w a' ro' k ka kr Q hq n=>wpIn_ret (hq R w a' (.refl k) ka)

theorem sound_region {id:Nat} {ops:Array Oper} (hp:plainRun P (SoundCall P) (SoundYield P) ops (List.range ops.size) a h a1 h1):SoundCode P ro (.region id ops false) a h .normal a1 h1 :=
 sound_plain (fun _ e=>by cases e) fun R w a' ro' k ka kr Q hq n=>wpIn_region (plain_sound n ro' _ R w h a a' k ka hp hq)

/-- An exit that a run can come to. -/
def exitOk:Exit→Prop
 | .normal | .exit _ | .ret=>True
 | _=>False

theorem sound_seq {c d:Code} (s1:SoundCode P ro c a h .normal a1 h1) (s2:SoundCode P ro d a1 h1 x a2 h2):SoundCode P ro (.seq c d) a h x a2 h2 :=
 sound_plain (fun _ e=>by cases e) fun R w a' ro' k ka kr Q hq n=>wpIn_seq ((s1 R w a' ro' k ka kr _ (fun R1 w1 a1' hs1 ha1 =>
  (s2 R1 w1 a1' ro' hs1.rel ha1 (kr.mono hs1.le) Q (fun R2 w2 a2' hs2 ha2=>hq R2 w2 a2' (hs1.trans hs2) ha2) n).1) n).1)

theorem sound_seq_stop {c d:Code} (hx:x ≠ .normal) (s1:SoundCode P ro c a h x a1 h1):SoundCode P ro (.seq c d) a h x a1 h1 :=
 sound_plain (fun _ e=>by cases e) fun R w a' ro' k ka kr Q hq n=>wpIn_seq ((s1 R w a' ro' k ka kr _ (fun R1 w1 a1' hs1 ha1=>by
  cases x <;> first | exact absurd rfl hx | exact hq R1 w1 a1' hs1 ha1) n).1)

theorem sound_cond {c:Operand} {d e:Code} {t:Bool} (hok:opndOk c=true) (hc:a.eval c=.bool t) (s:SoundCode P ro (if t then d else e) a h x a1 h1):SoundCode P ro (.cond c d e) a h x a1 h1 :=
 sound_plain (fun _ e=>by cases e) fun R w a' ro' k ka kr Q hq n=>wpIn_cond (t:=t) (by have:=ka.eval k.glob hok; rw [hc,VR_bool] at this; exact this) (s R w a' ro' k ka kr Q hq n).1

theorem sound_block {id:Nat} {c:Code} (s:SoundCode P ro c a h x a1 h1):SoundCode P ro (.block id c) a h (match x with | .exit j=>if j=id then .normal else .exit j | y=>y) a1 h1 :=
 sound_plain (fun _ e=>by cases e) fun R w a' ro' k ka kr Q hq n=>wpIn_block ((s R w a' ro' k ka kr _ (fun R1 w1 a1' hs1 ha1=>by
  have:=hq R1 w1 a1' hs1 ha1
  cases x with
  | exit j =>
   simp only [Exit.inBlock]
   split
   ·rename_i e; subst e; simpa using this
   ·rename_i e; simpa [e] using this
  | _=>exact this) n).1)

theorem loopIn_of (F:Fence) (n:Nat) {body:Code} {Q:Exit→Act→World→Prop} {a:Act} {w:World} (hl:LoopIn F n P body Q a w):(Code.loop body).wpIn F n P Q a w:=by
 intro b k cs hro hb hr
 obtain ⟨e,a',w',hq,harr⟩:=hl b k cs hro hb hr
 exact ⟨e,a',w',hq,.of_steps (.one (fenced_calm hb hr rfl) stepR_loop) harr⟩

theorem loopIn_more (F:Fence) (n:Nat) {body:Code} {Q:Exit→Act→World→Prop} {a:Act} {w:World}
  (hb:body.wpIn F n P (Exit.then (LoopIn F n P body Q) Q) a w):LoopIn F n P body Q a w:=by
 intro b k cs hro hfn hr
 obtain ⟨e,a₁,w₁,hq,harr⟩:=hb b (.inLoop body :: k) cs hro hfn hr
 cases e with
 | normal =>
  obtain ⟨e₂,a₂,w₂,hq₂,harr₂⟩:=hq b k cs hro hfn hr
  exact ⟨e₂,a₂,w₂,hq₂,.of_steps (StepsIn.trans harr (.one (fenced_calm hfn hr rfl) stepR_inLoop)) harr₂⟩
 | exit id=>exact ⟨_,a₁,w₁,hq,.pass (x:=.inLoop body) rfl (fun _ _=>.inl (by simp)) harr⟩
 | goto l=>exact ⟨_,a₁,w₁,hq,.pass (x:=.inLoop body) rfl (fun _ _=>.inl (by simp)) harr⟩
 | ret=>exact ⟨_,a₁,w₁,hq,.pass (x:=.inLoop body) rfl (fun _ _=>.inl (by simp)) harr⟩
 | panic ch=>exact ⟨_,a₁,w₁,hq,.pass (x:=.inLoop body) rfl (fun _ _=>.inl (by simp)) harr⟩
 | outgrown=>exact ⟨_,a₁,w₁,hq,.pass (x:=.inLoop body) rfl (fun _ _=>.inl (by simp)) harr⟩

theorem sound_loop_stop {body:Code} (hx:x ≠ .normal) (s:SoundCode P ro body a h x a1 h1):SoundCode P ro (.loop body) a h x a1 h1:=by
 have key:∀ (R:Ren) (w:World) (a':Act) (ro':Option Nat),Rel P R (hget h) w→ActR R a a'→RoR R ro ro'→∀ (Q:Exit→Act→World→Prop),
   (∀ R1 w1 a1',Sim P R h w R1 h1 w1→ActR R1 a1 a1'→Q x a1' w1)→∀ (n:Nat),LoopIn (wideR ro') n P body Q a' w:=fun R w a' ro' k ka kr Q hq n =>
  loopIn_more _ n ((s R w a' ro' k ka kr _ (fun R1 w1 a1' hs1 ha1=>by
   cases x <;> first | exact absurd rfl hx | exact hq R1 w1 a1' hs1 ha1) n).1)
 exact fun R w a' ro' k ka kr Q hq n=>⟨loopIn_of _ n (key R w a' ro' k ka kr Q hq n),fun body e=>by cases e; exact key R w a' ro' k ka kr Q hq n⟩

theorem sound_loop_more {body:Code} (s1:SoundCode P ro body a h .normal a1 h1) (s2:SoundCode P ro (.loop body) a1 h1 x a2 h2):SoundCode P ro (.loop body) a h x a2 h2:=by
 have key:∀ (R:Ren) (w:World) (a':Act) (ro':Option Nat),Rel P R (hget h) w→ActR R a a'→RoR R ro ro'→∀ (Q:Exit→Act→World→Prop),
   (∀ R1 w1 a1',Sim P R h w R1 h2 w1→ActR R1 a2 a1'→Q x a1' w1)→∀ (n:Nat),LoopIn (wideR ro') n P body Q a' w:=fun R w a' ro' k ka kr Q hq n =>
  loopIn_more _ n ((s1 R w a' ro' k ka kr _ (fun R1 w1 a1' hs1 ha1 =>
   (s2 R1 w1 a1' ro' hs1.rel ha1 (kr.mono hs1.le) Q (fun R2 w2 a2' hs2 ha2=>hq R2 w2 a2' (hs1.trans hs2) ha2) n).2 body rfl) n).1)
 exact fun R w a' ro' k ka kr Q hq n=>⟨loopIn_of _ n (key R w a' ro' k ka kr Q hq n),fun body e=>by cases e; exact key R w a' ro' k ka kr Q hq n⟩

/-! ### calls -/
/-- The results of a function. -/
def resA (P:Program) (h:Heap) (tmps:Array Value):List ResultVar→Option (List Value)
 | []=>some []
 | .tmp t :: r=>(resA P h tmps r).map fun vs=>tmps.getD t undef :: vs
 | .cell a t :: r=>match loadT P h t (tmps.getD a undef),resA P h tmps r with
  | some v,some vs=>some (v :: vs)
  | _,_=>none

def resultsA (P:Program) (h:Heap) (fn:Func) (tmps:Array Value):Option Value :=
 match resA P h tmps fn.results.toList with
 | some [v]=>some v
 | some vs=>some (.tuple vs.toArray)
 | none=>none

theorem tmps_getD {t t':Array Value} (k:ArrR (VR R) t t') (i:Nat):VR R (t.getD i undef) (t'.getD i undef):=by
 simp only [Array.getD_eq_getD_getElem?]
 cases ht:t[i]? with
 | some v =>
  obtain ⟨v',h1,h2⟩:=k.get ht
  simpa [h1] using h2
 | none =>
  have:t'[i]?=none:=by
   rw [Array.getElem?_eq_none_iff] at ht ⊢
   rw [k.1]; exact ht
  simp [this,VR_undef]

theorem resA_sim (k:Rel P R (hget h) w) {t t':Array Value} (kt:ArrR (VR R) t t') (f:ResultVar→Sem Value) (hf1:∀ i,f (.tmp i)=pure (t'.getD i undef))
  (hf2:∀ p ty,f (.cell p ty)=(do loadVar ty (← asAddr (t'.getD p undef)))):∀ (rs:List ResultVar) (vs:List Value),resA P h t rs=some vs →
  ∃ vs':List Value,(rs.mapM f).run P w=.ok vs' w∧ArrR (VR R) vs.toArray vs'.toArray
 | [],vs,he=>by simp [resA] at he; subst he; exact ⟨[],by simp,ArrR.empty _⟩
 | .tmp i :: rs,vs,he=>by
  simp only [resA,Option.map_eq_some_iff] at he
  obtain ⟨us,hu,rfl⟩:=he
  obtain ⟨us',g1,g2⟩:=resA_sim k kt f hf1 hf2 rs us hu
  refine ⟨t'.getD i undef :: us',by simp only [List.mapM_cons,Sem.run_bind,hf1,Sem.run_pure,Result.andThen_ok,g1],?_⟩
  have:=(ArrR.one (tmps_getD kt i)).append g2
  simpa using this
 | .cell p ty :: rs,vs,he=>by
  simp only [resA] at he
  split at he
  ·rename_i v us hv hu
   cases he
   obtain ⟨us',g1,g2⟩:=resA_sim k kt f hf1 hf2 rs us hu
   obtain ⟨v',a',q1,q2,q3⟩:=loadT_val k (tmps_getD kt p) hv
   refine ⟨v' :: us',by simp only [List.mapM_cons,Sem.run_bind,hf2,q1,asAddr,q2,Sem.run_pure,Result.andThen_ok,g1],?_⟩
   have:=(ArrR.one q3).append g2
   simpa using this
  ·cases he

theorem resultsA_sim (k:Rel P R (hget h) w) {t t':Array Value} (kt:ArrR (VR R) t t') {fn:Func} {v:Value} (he:resultsA P h fn t=some v):∃ v',(results fn t').run P w=.ok v' w∧VR R v v':=by
 unfold resultsA at he
 have hres:results fn t'=((fn.results.mapM fun (r:ResultVar)=>(match r with | .tmp i=>pure (t'.getD i undef) | .cell a ty=>do loadVar ty (← asAddr (t'.getD a undef)):Sem Value)) >>= fun vs=>pure (if h:vs.size=1 then vs[0] else .tuple vs)):=rfl
 have hrun:∀ vs:List Value,resA P h t fn.results.toList=some vs→∃ vs':List Value,(fn.results.mapM fun (r:ResultVar)=>(match r with | .tmp i=>pure (t'.getD i undef) | .cell a ty=>do loadVar ty (← asAddr (t'.getD a undef)):Sem Value)).run P w=.ok vs'.toArray w∧ArrR (VR R) vs.toArray vs'.toArray:=by
  intro vs hvs
  obtain ⟨vs',g1,g2⟩:=resA_sim k kt (fun (r:ResultVar)=>(match r with | .tmp i=>pure (t'.getD i undef) | .cell a ty=>do loadVar ty (← asAddr (t'.getD a undef)):Sem Value)) (fun _=>rfl) (fun _ _=>rfl) fn.results.toList vs hvs
  refine ⟨vs',?_,g2⟩
  rw [Array.mapM_eq_mapM_toList,Sem.run_map,g1]
  rfl
 split at he
 ·rename_i u hu
  cases he
  obtain ⟨vs',g1,g2⟩:=hrun _ hu
  have hs:=g2.1
  match vs',hs with
  | [u'],_ =>
   refine ⟨u',?_,g2.2 0 _ _ (by simp) (by simp)⟩
   rw [hres,Sem.run_bind,g1]
   simp
 ·rename_i us hne hu
  cases he
  obtain ⟨vs',g1,g2⟩:=hrun _ hu
  refine ⟨.tuple vs'.toArray,?_,by rw [VR_tuple]; exact ⟨_,rfl,g2⟩⟩
  rw [hres,Sem.run_bind,g1]
  have hs:=g2.1
  have:¬ vs'.toArray.size=1:=by
   intro q
   rw [q] at hs
   have hl:us.length=1:=by simpa using hs.symm
   match us,hl with
   | [u],_=>exact hne u rfl
  simp only [Result.andThen_ok]
  rw [dif_neg this]
  rfl
 ·cases he

/-- What is no row of cells, on both sides. -/
theorem Rel.objOf (k:Rel P R (hget h) w) {r r':Nat} (hr:BR R r r') {o:Obj} (ho:h[r]?=some o) (hc:∀ c e fr,o ≠ .cells c e fr) :
  R.map r=some r'∧R.slack r=none∧∃ o',w.heap[r']?=some o'∧ObjR R o o':=by
 rcases hr with hd | hm
 ·have:=(k.dead r hd).2
  simp only [hget,ho,deadRow] at this
  cases this
  exact absurd rfl (hc _ _ _)
 ·obtain ⟨p,p',h1,h2,h3,h4,_⟩:=k.obj r r' hm
  simp only [hget,ho] at h1
  cases h1
  refine ⟨hm,?_,p',h2,h3⟩
  have:isSlack (some o)=false:=by cases o <;> first | rfl | exact absurd rfl (hc _ _ _)
  rw [this] at h4
  cases hq:R.slack r with
  | none=>rfl
  | some q=>rw [hq] at h4; cases h4

theorem Sim.putOther (k:Rel P R (hget h) w) {r r':Nat} (hm:R.map r=some r') (hsl:R.slack r=none) {o o' o1:Obj} (hw:w.heap[r']?=some o1) (hc1:∀ c e fr,o1 ≠ .cells c e fr) (ho:ObjR R o o') (hc:∀ c e fr,o ≠ .cells c e fr) :
  Sim P R h w R (h.setIfInBounds r o) (w.putObj r' o'):=by
 have hlt:=(Array.getElem?_eq_some_iff.1 hw).1
 have hns:isSlack (some o)=false:=by cases o <;> first | rfl | exact absurd rfl (hc _ _ _)
 refine Sim.put k hm ho ⟨by rw [hsl,hns]; rfl,fun z r q=>by rw [hsl] at q; cases q⟩ (World.putObj_heap_same hlt) (fun x hx=>World.putObj_heap_other hx) (by simp) rfl rfl rfl (fun _=>by rw [hw]; cases o1 <;> first | trivial | exact absurd rfl (hc1 _ _ _))

/-- The blocks of deferred calls are shut. -/
def takeA (h:Heap):List Deferred→Option Heap
 | []=>some h
 | d :: ds=>match d.target with
  | .collected r=>match h[r]? with
   | some (.deferred (some []))=>takeA (h.setIfInBounds r (.deferred none)) ds
   | _=>none
  | _=>none

theorem takeA_sound {F:Fence} {n:Nat} {fn:Func} {t':Array Value} {Q:Ending→World→Prop}:∀ (ds ds':List Deferred) (R:Ren) (h h2:Heap) (w:World),Rel P R (hget h) w→DefsR R ds ds'→takeA h ds=some h2 →
  (∀ R1 w1,Sim P R h w R1 h2 w1→∃ v,(results fn t').run P w1=.ok v w1∧Q (.returned v) w1)→LeavesInM F n P fn t' Q ds' .returning w
 | [],ds',R,h,h2,w,k,hd,ht,hq=>by
  simp only [DefsR] at hd; subst hd
  simp only [takeA,Option.some.injEq] at ht; subst ht
  exact hq R w (.refl k)
 | d :: ds,ds',R,h,h2,w,k,hd,ht,hq=>by
  obtain ⟨d',r',rfl,h1,h2'⟩:=hd
  obtain ⟨b,b',rfl,rfl,hb⟩:=h1.mark
  simp only [takeA] at ht
  split at ht
  ·rename_i hbo
   obtain ⟨hm,hsl,o',hw,ho⟩:=k.objOf hb hbo (by intro c e fr q; cases q)
   simp only [ObjR] at ho
   obtain ⟨rfl,_⟩:=ho
   have hsim:=Sim.putOther k hm hsl (o:=.deferred none) (o':=.deferred none) hw (by intro c e fr q; cases q) ⟨rfl,.inl rfl⟩ (by intro c e fr q; cases q)
   refine ⟨by simp,.inl ⟨b',_,rfl,run_takeDeferred hw,?_⟩⟩
   exact takeA_sound ds r' R _ h2 _ hsim.rel h2' ht fun R1 w1 hs1=>hq R1 w1 (hsim.trans hs1)
  ·cases ht

theorem sound_call {f:FuncId} {fn:Func} {c:Code} {args:Array Value} {v:Value} (hf:P.funcs[f]?=some fn) (hb:fn.body=some c)
  (hs:SoundCode P none c { tmps:=args++Array.replicate (fn.ntmps - args.size) undef,defers:=[] } h x a1 h1) (hx:x=.normal ∨ x=.ret)
  (ht:takeA h1 a1.defers=some h2) (hr:resultsA P h2 fn a1.tmps=some v):SoundCall P f args h v h2:=by
 intro R w args' k ha Q hq n ro
 have hcode:c.wpIn (wideR none) n P (bodyPostM (wideR none) n P fn Q) { tmps:=args'++Array.replicate (fn.ntmps - args'.size) undef,defers:=[] } w:=by
  refine (hs R w { tmps:=args'++Array.replicate (fn.ntmps - args'.size) undef,defers:=[] } none k ⟨?_,(rfl:([]:List Deferred)=[])⟩ rfl _ ?_ n).1
  ·rw [ha.1]; exact ha.append (ArrR.replicate _ VR_undef)
  ·intro R1 w1 a1' hs1 ha1
   have key:LeavesInM (wideR none) n P fn a1'.tmps Q a1'.defers .returning w1:=takeA_sound _ _ R1 h1 h2 w1 hs1.rel ha1.defers ht fun R2 w2 hs2=>by
    obtain ⟨v',g1,g2⟩:=resultsA_sim hs2.rel (ha1.tmps.monoR hs2.le) hr
    exact ⟨v',g1,hq R2 w2 v' (hs1.trans hs2) g2⟩
   rcases hx with rfl | rfl
   ·exact key
   ·exact key
 exact callsIn_of_wp_marks (F:=wideR none) hf hb trivial hcode rfl
end
end Go.AM
