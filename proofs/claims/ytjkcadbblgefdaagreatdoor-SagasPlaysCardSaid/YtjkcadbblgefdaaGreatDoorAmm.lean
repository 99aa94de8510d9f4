/- An abstract machine for Go, part 13: runs of code, and what it means that they are sound. -/
import Derived.Test.YtjkcadbblgefdaaGreatDoorAml
import Derived.RangeFuncCalls
namespace Go.AM

/-- The constants of an operand hold no address; no variable of the program's is named. -/
def opndOk:Operand→Bool
  | .const v=>flatV v
  | .global g=>globList.contains g
  | _=>true

def operOk (o:Oper):Bool:=o.op.operands.all opndOk

abbrev CallRel:=FuncId→Array Value→Heap→Value→Heap→Prop
abbrev YieldRel:=Nat→Array Value→Heap→Value→Heap→Prop
abbrev CodeRel:=Option Nat→Code→Act→Heap→Exit→Act→Heap→Prop

/-- What a call of a value calls, and with what. -/
def calleeOf (ev:Operand→Value) (o:Oper):Option (Fn × Array Value) :=
  match o.op with
  | .call { callee:=.value f,args,.. }=>match ev f with
    | .func (.func k) first captured=>some (.func k,first++args.map ev++captured)
    | .func (.yield l) first captured=>some (.yield l,first++args.map ev)
    | _=>none
  | _=>none

/-- One operation, calls and all. -/
def stepRel (P:Program) (C:CallRel) (Y:YieldRel) (ev:Operand→Value) (o:Oper) (h:Heap) (v:Value) (h':Heap):Prop :=
  operOk o=true ∧
  (amOp P ev o h=some (v,h') ∨
   (∃ k args fn,calleeOf ev o=some (.func k,args)∧P.funcs[k]?=some fn∧(fn.name == "runtime.NumGoroutine")=false∧fn.body.isSome=true∧C k args h v h') ∨
   (∃ l args,calleeOf ev o=some (.yield l,args)∧Y l args h v h'))

/-- A region in the order of its text. -/
def plainRun (P:Program) (C:CallRel) (Y:YieldRel) (ops:Array Oper):List Nat→Act→Heap→Act→Heap→Prop
  | [],a,h,a',h'=>a'=a∧h'=h
  | i :: rest,a,h,a',h'=>∃ o,ops[i]?=some o ∧
      ((Region.wanted o (yielded ops a.tmps)=true∧∃ v h1,stepRel P C Y a.eval o h v h1∧plainRun P C Y ops rest (a.put o.dst v) h1 a' h') ∨
       (Region.wanted o (yielded ops a.tmps)=false∧plainRun P C Y ops rest (a.put o.dst undef) h a' h'))

/-- The two sides of what an activation holds. -/
structure DefR (R:Ren) (d d':Deferred):Prop where
  mark:∃ r r',d={ target:=.collected r,args:=#[] }∧d'={ target:=.collected r',args:=#[] }∧BR R r r'

def DefsR (R:Ren):List Deferred→List Deferred→Prop
  | [],ds=>ds=[]
  | d :: r,ds=>∃ d' r',ds=d' :: r'∧DefR R d d'∧DefsR R r r'

structure ActR (R:Ren) (a a':Act):Prop where
  tmps:ArrR (VR R) a.tmps a'.tmps
  defers:DefsR R a.defers a'.defers

def RoR (R:Ren):Option Nat→Option Nat→Prop
  | none,x=>x=none
  | some l,x=>∃ l',x=some l'∧BR R l l'

section
variable {P : Program} {R R' : Ren} {h h' : Heap} {w w' : World}

theorem DefsR.mono (hl:R.le R'):∀ {ds ds':List Deferred},DefsR R ds ds'→DefsR R' ds ds'
  | [],ds',h=>h
  | d :: r,ds',⟨d',r',e,h1,h2⟩=>⟨d',r',e,⟨let ⟨x,y,e1,e2,hb⟩:=h1.mark; ⟨x,y,e1,e2,hb.mono hl⟩⟩,h2.mono hl⟩
theorem ActR.mono (hl:R.le R') {a a':Act} (k:ActR R a a'):ActR R' a a':=⟨k.tmps.monoR hl,k.defers.mono hl⟩
theorem RoR.mono (hl:R.le R') {x x':Option Nat} (k:RoR R x x'):RoR R' x x':=by
  cases x with
  | none=>exact k
  | some l=>obtain ⟨l',e,hb⟩:=k; exact ⟨l',e,hb.mono hl⟩

theorem ActR.put {a a':Act} (k:ActR R a a') (d:Option Tmp) {v v':Value} (hv:VR R v v'):ActR R (a.put d v) (a'.put d v'):=by
  cases d with
  | none=>exact k
  | some d=>exact ⟨k.tmps.set d hv,k.defers⟩

theorem ActR.eval {a a':Act} (k:ActR R a a') (kg:∀ g ∈ globList,R.dead g=true ∨ R.map g=some g) {x:Operand} (hx:opndOk x=true):VR R (a.eval x) (a'.eval x):=by
  cases x with
  | tmp t =>
    simp only [Act.eval,Array.getD_eq_getD_getElem?]
    cases ht:a.tmps[t]? with
    | some v =>
      obtain ⟨v',h1,h2⟩:=k.tmps.get ht
      simpa [h1] using h2
    | none =>
      have:a'.tmps[t]?=none:=by
        rw [Array.getElem?_eq_none_iff] at ht ⊢
        rw [k.tmps.1]; exact ht
      simp [this,VR_undef]
  | const v=>exact (flatV_VR (R:=R) (v:=v) hx:VR R v v)
  | global g =>
    have hg:g ∈ globList:=by simpa [opndOk] using hx
    show VR R (.pointer (some ⟨g,0,none⟩)) (.pointer (some ⟨g,0,none⟩))
    rw [VR_ptr]
    refine ⟨_,rfl,rfl,rfl,?_⟩
    rcases kg g hg with q | q
    · exact .inl q
    · exact .inr ⟨q,rfl⟩
  | func f=>show VR R (.func (.func f) #[] #[]) (.func (.func f) #[] #[]); rw [VR_func]; exact ⟨_,_,_,rfl,rfl,ArrR.empty _,ArrR.empty _⟩

theorem VR.bool_inv {x:Value} {b:Bool} (h:VR R x (.bool b)):x=.bool b:=by
  cases x
  case bool c=>simp at h; rw [h]
  case pointer a=>cases a <;> simp at h
  case slice a n c=>cases a <;> simp at h
  case map r=>cases r <;> simp at h
  case func f a b=>rw [VR_func] at h; obtain ⟨_,_,_,e,_⟩:=h; cases e
  case iface t u=>rw [VR_tok] at h; have:=h.2; simp [opq] at this
  all_goals simp at h

theorem ActR.yielded {a a':Act} (k:ActR R a a') (ops:Array Oper) (j:Nat):yielded ops a'.tmps j=yielded ops a.tmps j:=by
  unfold Go.yielded
  cases hd:(ops[j]?).bind (·.dst) with
  | none=>simp
  | some d =>
    simp only [Option.bind_some]
    cases ht:a.tmps[d]? with
    | none =>
      have:a'.tmps[d]?=none:=by
        rw [Array.getElem?_eq_none_iff] at ht ⊢
        rw [k.tmps.1]; exact ht
      simp [this]
    | some v =>
      obtain ⟨v',h1,h2⟩:=k.tmps.get ht
      rw [h1]
      split
      · rename_i b heq
        cases heq
        rw [h2.bool_inv]
      · rename_i hno
        split
        · rename_i b heq
          cases heq
          rw [VR_bool] at h2
          subst h2
          exact absurd rfl (hno b)
        · rfl

/-- The fence that lets everything in, inside a round or not. -/
def wideR (ro:Option Nat):Fence:={ fn:=fun _=>True,depth:=none,alive:=false,round:=ro }

/-- That a call is sound. -/
def SoundCall (P:Program):CallRel:=fun f args h v h1 =>
  ∀ (R:Ren) (w:World) (args':Array Value),Rel P R (hget h) w→ArrR (VR R) args args'→∀ (Q:Ending→World→Prop),
    (∀ R1 w1 v',Sim P R h w R1 h1 w1→VR R1 v v'→Q (.returned v') w1)→∀ (n:Nat) (ro:Option Nat),CallsIn (wideR ro) n P f args' w Q

def SoundYield (P:Program):YieldRel:=fun l args h v h1 =>
  ∀ (R:Ren) (w:World) (l':Nat) (args':Array Value),Rel P R (hget h) w→BR R l l'→ArrR (VR R) args args'→∀ (Q:Ending→World→Prop),
    (∀ R1 w1 v',Sim P R h w R1 h1 w1→VR R1 v v'→Q (.returned v') w1)→∀ (n:Nat) (ro:Option Nat),
    ∃ fn tmps assign body,(Instr.yield l' args').run P w=.ok (.round l' fn tmps assign body) w∧RoundIn (wideR ro) n P l' fn tmps assign body w Q

/-- The code of a loop, from the head of a round. -/
def LoopIn (F:Fence) (n:Nat) (P:Program) (body:Code) (Q:Exit→Act→World→Prop) (a:Act) (w:World):Prop :=
  ∀ (b:Frame) (k:List Item) (cs:List Frame),b.roundOf=F.round→F.fn b.fn→F.room (cs.length + 1 + n) →
    ∃ e a' w',Q e a' w'∧ArrivesIn (Machine.fenced P F) P (lone (b.atR a (.code body :: .inLoop body :: k)) cs w) b k cs e a' w'

def SoundCode (P:Program):CodeRel:=fun ro c a h x a1 h1 =>
  ∀ (R:Ren) (w:World) (a':Act) (ro':Option Nat),Rel P R (hget h) w→ActR R a a'→RoR R ro ro'→∀ (Q:Exit→Act→World→Prop),
    (∀ R1 w1 a1',Sim P R h w R1 h1 w1→ActR R1 a1 a1'→Q x a1' w1)→∀ (n:Nat),
    c.wpIn (wideR ro') n P Q a' w∧∀ body,c=.loop body→LoopIn (wideR ro') n P body Q a' w

/-- One operation is sound where its calls are. -/
theorem step_sound {a a':Act} {o:Oper} {v:Value} (k:Rel P R (hget h) w) (ha:∀ x ∈ o.op.operands,VR R (a.eval x) (a'.eval x))
    (hs:stepRel P (SoundCall P) (SoundYield P) a.eval o h v h') {next:Act→World→Prop} {Q:Exit→Act→World→Prop}
    (hn:∀ R1 w1 v',Sim P R h w R1 h' w1→VR R1 v v'→next (a'.put o.dst v') w1) (n:Nat) (ro:Option Nat):o.wpIn (wideR ro) n P a' w next Q:=by
  refine ⟨fun _ _=>trivial,?_⟩
  obtain ⟨hok,hs⟩:=hs
  rcases hs with hs | ⟨f,args,fn,hc,hf,hname,hbody,hcall⟩ | ⟨l,args,hc,hy⟩
  · obtain ⟨R1,w1,v',hr,hv,hsim⟩:=amOp_sim k ha hs
    have hnd:∀ c,o.op ≠ .defer c:=by
      intro c hc
      simp [amOp,hc] at hs
    rw [Oper.semAt_eq _ _ _ hnd]
    rcases hr with hr | ⟨hr,rfl⟩
    · rw [hr]; exact hn _ _ _ hsim hv
    · rw [hr]; exact hn _ _ _ hsim hv
  · unfold calleeOf at hc
    split at hc
    · rename_i g as ts hop
      have hnd:∀ c,o.op ≠ .defer c:=by intro c hc; rw [hop] at hc; cases hc
      rw [Oper.semAt_eq _ _ _ hnd]
      have hg:=ha g (by simp [hop,Op.operands,Call.operands])
      have has:=arrMap_rel (R:=R) (ev:=a.eval) (ev':=a'.eval) as (fun y hy=>ha y (by simp [hop,Op.operands,Call.operands,hy]))
      split at hc
      · rename_i k1 first cap hgv
        cases hc
        rw [hgv,VR_func] at hg
        obtain ⟨fn',first',cap',hge,hfn,h1,h2⟩:=hg
        simp only [FnR] at hfn
        subst hfn
        have hrun:(execOp a'.eval o).run P w=.ok (.enter f (first'++as.map a'.eval++cap')) w:=by
          have hbs:fn.body ≠ none:=by intro q; rw [q] at hbody; cases hbody
          have hname':¬ fn.name= "runtime.NumGoroutine":=by simpa using hname
          unfold execOp
          simp only [hop]
          simp [resolve,hge,Deferred.ofValue,invoke,callFunc,hf,hname',hbs]
        rw [hrun]
        exact ⟨fun q=>(by simp [wideR] at q),hcall R w _ k ((h1.append has).append h2) _ hn _ ro⟩
      · cases hc
      · cases hc
    · cases hc
  · unfold calleeOf at hc
    split at hc
    · rename_i g as ts hop
      have hnd:∀ c,o.op ≠ .defer c:=by intro c hc; rw [hop] at hc; cases hc
      rw [Oper.semAt_eq _ _ _ hnd]
      have hg:=ha g (by simp [hop,Op.operands,Call.operands])
      have has:=arrMap_rel (R:=R) (ev:=a.eval) (ev':=a'.eval) as (fun y hy=>ha y (by simp [hop,Op.operands,Call.operands,hy]))
      split at hc
      · cases hc
      · rename_i k1 first cap hgv
        cases hc
        rw [hgv,VR_func] at hg
        obtain ⟨fn',first',cap',hge,hfn,h1,h2⟩:=hg
        simp only [FnR] at hfn
        obtain ⟨l',rfl,hl⟩:=hfn
        obtain ⟨fn,tmps,assign,body,hyr,hround⟩:=hy R w l' (first'++as.map a'.eval) k hl (h1.append has) (fun | .returned v,w''=>next (a'.put o.dst v) w'' | .panicked chain,w''=>Q (.panic chain) a' w'' | .outgrown,_=>LetsOut Q) hn (n - 1) ro
        have hrun:(execOp a'.eval o).run P w=.ok (.round l' fn tmps assign body) w:=by
          unfold execOp
          simp only [hop]
          simp [resolve,hge,Deferred.ofValue,invoke,hyr]
        rw [hrun]
        exact ⟨fun q=>(by simp [wideR] at q),hround⟩
      · cases hc
    · cases hc

theorem plain_sound {ops:Array Oper} {Q:Exit→Act→World→Prop} {a1:Act} {h1:Heap} (n:Nat) (ro:Option Nat):∀ (l:List Nat) (R:Ren) (w:World) (h:Heap) (a a':Act),
    Rel P R (hget h) w→ActR R a a'→plainRun P (SoundCall P) (SoundYield P) ops l a h a1 h1→(∀ R1 w1 a1',Sim P R h w R1 h1 w1→ActR R1 a1 a1'→Q .normal a1' w1)→wpOpsIn (wideR ro) n P ops Q l a' w
  | [],R,w,h,a,a',k,ka,hp,hq=>by
    obtain ⟨rfl,rfl⟩:=hp
    exact hq R w a' (.refl k) ka
  | i :: rest,R,w,h,a,a',k,ka,hp,hq=>by
    obtain ⟨o,ho,hp⟩:=hp
    simp only [wpOpsIn,ho]
    have hw:Region.wanted o (yielded ops a'.tmps)=Region.wanted o (yielded ops a.tmps):=by
      have:yielded ops a'.tmps=yielded ops a.tmps:=funext (ka.yielded ops)
      rw [this]
    rcases hp with ⟨hw1,v,h2,hs,hp⟩ | ⟨hw1,hp⟩
    · rw [hw,hw1,if_pos rfl]
      have hok:=hs.1
      refine step_sound k (fun x hx=>ka.eval k.glob (Array.all_eq_true_iff_forall_mem.1 hok x hx)) hs ?_ n ro
      intro R1 w1 v' hsim hv
      exact plain_sound n ro rest R1 w1 h2 _ _ hsim.rel ((ka.mono hsim.le).put o.dst hv) hp fun R2 w2 a2 hs2 ha2=>hq R2 w2 a2 (hsim.trans hs2) ha2
    · rw [hw,hw1,if_neg (by simp)]
      exact ⟨fun _ _=>trivial,plain_sound n ro rest R w h _ _ k (ka.put o.dst VR_undef) hp hq⟩
end
end Go.AM
