/- An abstract machine for Go, part 21: a program that runs it, and that what it finds is sound. -/
import Derived.Test.YtjkcadbblgefdaaGreatDoorAmt
namespace Go.AM

/-- Whether two values are plainly the same. -/
def sameV:Nat→Value→Value→Bool
 | _,.bool a,.bool b=>a == b
 | _,.int k a,.int l b=>decide (k=l) && decide (a=b)
 | _,.string a,.string b=>decide (a.data.toList=b.data.toList)
 | _,.pointer a,.pointer b=>decide (a=b)
 | _,.slice a n c,.slice b m d=>decide (a=b) && n == m && c == d
 | _,.map a,.map b=>decide (a=b)
 | _,.nilFunc,.nilFunc=>true
 | _,.nilIface,.nilIface=>true
 | n + 1,.agg a,.agg b=>a.size == b.size && (a.toList.zip b.toList).all fun x=>sameV n x.1 x.2
 | n + 1,.tuple a,.tuple b=>a.size == b.size && (a.toList.zip b.toList).all fun x=>sameV n x.1 x.2
 | _,_,_=>false

theorem all_zip_eq {n:Nat} (ih:∀ x y,sameV n x y=true→x=y):∀ (a b:List Value),a.length=b.length→(a.zip b).all (fun x=>sameV n x.1 x.2)=true→a=b
 | [],[],_,_=>rfl
 | [],_ :: _,h,_=>by simp at h
 | _ :: _,[],h,_=>by simp at h
 | x :: a,y :: b,h,k=>by
  simp only [List.zip_cons_cons,List.all_cons,Bool.and_eq_true] at k
  rw [ih x y k.1,all_zip_eq ih a b (by simpa using h) k.2]

theorem sameV_eq:∀ (n:Nat) (x y:Value),sameV n x y=true→x=y:=by
 intro n
 induction n with
 | zero =>
  intro x y h
  unfold sameV at h
  split at h <;> simp_all
  rename_i a b
  exact ByteArray.ext h
 | succ n ih =>
  intro x y h
  unfold sameV at h
  split at h <;> simp_all
  ·exact ByteArray.ext (by assumption)
  ·rename_i a b heq
   have:=all_zip_eq ih _ _ (by simp only [Array.length_toList]; exact h.1) (List.all_eq_true.2 fun x hx=>h.2 _ _ hx)
   exact Array.ext' this
  ·rename_i a b heq
   have:=all_zip_eq ih _ _ (by simp only [Array.length_toList]; exact h.1) (List.all_eq_true.2 fun x hx=>h.2 _ _ hx)
   exact Array.ext' this

abbrev RunCall:=FuncId→Array Value→Heap→Option (Value × Heap)
abbrev RunYield:=Nat→Array Value→Heap→Option (Value × Heap)
abbrev RunCode:=Option Nat→Code→Act→Heap→Option (Exit × Act × Heap)

def stepEval (P:Program) (C:RunCall) (Y:RunYield) (ev:Operand→Value) (o:Oper) (h:Heap):Option (Value × Heap) :=
 if operOk o then
  match amOp P ev o h with
  | some r=>some r
  | none=>match calleeOf ev o with
   | some (.func k,args)=>match P.funcs[k]? with
    | some fn=>if (fn.name == "runtime.NumGoroutine")=false∧fn.body.isSome=true then C k args h else none
    | none=>none
   | some (.yield l,args)=>Y l args h
   | _=>none
 else none

def plainEval (P:Program) (C:RunCall) (Y:RunYield) (ops:Array Oper):List Nat→Act→Heap→Option (Act × Heap)
 | [],a,h=>some (a,h)
 | i :: rest,a,h=>match ops[i]? with
  | some o=>match Region.wanted o (yielded ops a.tmps) with
   | true=>match stepEval P C Y a.eval o h with
    | some (v,h1)=>plainEval P C Y ops rest (a.put o.dst v) h1
    | none=>none
   | false=>plainEval P C Y ops rest (a.put o.dst undef) h
  | none=>none

/-- The readings still open are what they were. -/
def stillOk (P:Program) (T:Nat→Nat→Bool) (i:Nat) (h1:Heap) (qs:List (Nat × Act × Oper × Value)):Bool :=
 qs.all fun x=>T i x.1 || match amOp P x.2.1.eval x.2.2.1 h1 with
  | some (v,_)=>sameV 3 v x.2.2.2
  | none=>false

def drunEval (P:Program) (C:RunCall) (Y:RunYield) (ops:Array Oper) (T:Nat→Nat→Bool):List Nat→List (Nat × Act × Oper × Value)→Act→Heap→Option (Act × Heap)
 | [],_,a,h=>some (a,h)
 | i :: rest,qs,a,h=>match ops[i]? with
  | some o=>match Region.wanted o (yielded ops a.tmps) with
   | true=>match stepEval P C Y a.eval o h with
    | some (v,h1)=>match kindOf P o.op with
     | 3=>match stillOk P T i h1 qs with
      | true=>drunEval P C Y ops T rest qs (a.put o.dst v) h1
      | false=>none
     | 2=>drunEval P C Y ops T rest ((i,a,o,v) :: qs) (a.put o.dst v) h1
     | _=>drunEval P C Y ops T rest qs (a.put o.dst v) h1
    | none=>none
   | false=>drunEval P C Y ops T rest qs (a.put o.dst undef) h
  | none=>none

def callWith (P:Program) (run:RunCode):RunCall:=fun f args h =>
 match P.funcs[f]? with
 | some fn=>match fn.body with
  | some c=>match run none c { tmps:=args++Array.replicate (fn.ntmps - args.size) undef,defers:=[] } h with
   | some (.normal,a1,h1) | some (.ret,a1,h1)=>match takeA h1 a1.defers with
    | some h2=>(resultsA P h2 fn a1.tmps).map fun v=>(v,h2)
    | none=>none
   | _=>none
  | none=>none
 | none=>none

def yieldWith (run:RunCode):RunYield:=fun l args h =>
 match h[l]? with
 | some (.loop L)=>match L.state with
  | .ready=>if args.size=L.params.size then
    match run (some l) L.assign { tmps:=roundTmps L args,defers:=[] } h with
    | some (.normal,a1,h1)=>match h1[l]? with
     | some (.loop L1)=>match L1.state with
      | .ready=>match run (some l) L.body a1 (h1.setIfInBounds l (.loop { L1 with state:=.busy })) with
       | some (x,_,h3)=>match h3[l]?,jumpOf x with
        | some (.loop L3),some j=>some (.bool j.isNone,h3.setIfInBounds l (.loop { L3 with state:=if j.isNone then .ready else .done,pending:=j }))
        | _,_=>none
       | none=>none
      | _=>none
     | _=>none
    | _=>none
   else none
  | _=>none
 | _=>none

def rangeWith (P:Program) (run:RunCode) (ro:Option Nat) (g:Operand) (params:Array Tmp) (assign body:Code) (a:Act) (h:Heap):Option (Exit × Act × Heap) :=
 if opndOk g then
  match a.eval g with
  | .func (.func k0) first cap=>match P.funcs[k0]? with
   | some fn0=>if (fn0.name == "runtime.NumGoroutine")=false∧fn0.body.isSome=true then
     match enterA h a.tmps params assign body ro with
     | some (l,mark,h1)=>match callWith P run k0 (first++#[.func (.yield l) #[] #[]]++cap) h1 with
      | some (_,h2)=>match h2[l]? with
       | some (.loop L2)=>match L2.state with
        | .busy=>none
        | _=>match L2.pending with
         | none=>some (.normal,{ a with defers:=mark++a.defers },h2.setIfInBounds l (.loop { L2 with state:=.exhausted }))
         | some c=>run ro c { a with defers:=mark++a.defers } (h2.setIfInBounds l (.loop { L2 with state:=.exhausted }))
       | _=>none
      | none=>none
     | none=>none
    else none
   | none=>none
  | _=>none
 else none

def evalCode (P:Program):Nat→RunCode
 | 0,_,_,_,_=>none
 | n + 1,ro,c,a,h=>match c with
  | .skip=>some (.normal,a,h)
  | .label _=>some (.normal,a,h)
  | .exit id=>some (.exit id,a,h)
  | .ret=>some (.ret,a,h)
  | .region _ ops false=>match plainEval P (callWith P (evalCode P n)) (yieldWith (evalCode P n)) ops (List.range ops.size) a h with
   | some (a1,h1)=>some (.normal,a1,h1)
   | none=>none
  | .region _ ops true =>
   match staticOk P ops.toList (quietOrd P ops.toList) (ancTab ops.toList) (posOf (quietOrd P ops.toList) ops.size) with
   | true=>match drunEval P (callWith P (evalCode P n)) (yieldWith (evalCode P n)) ops (tabT (ancTab ops.toList)) (quietOrd P ops.toList) [] a h with
    | some (a1,h1)=>some (.normal,a1,h1)
    | none=>none
   | false=>none
  | .seq c d=>match evalCode P n ro c a h with
   | some (.normal,a1,h1)=>evalCode P n ro d a1 h1
   | r=>r
  | .cond c d e=>if opndOk c then
    match a.eval c with
    | .bool t=>evalCode P n ro (if t then d else e) a h
    | _=>none
   else none
  | .block id c=>match evalCode P n ro c a h with
   | some (.exit j,a1,h1)=>some (if j=id then .normal else .exit j,a1,h1)
   | r=>r
  | .loop body=>match evalCode P n ro body a h with
   | some (.normal,a1,h1)=>evalCode P n ro (.loop body) a1 h1
   | r=>r
  | .rangeFunc g params assign body=>rangeWith P (evalCode P n) ro g params assign body a h
  | _=>none

section
variable {P : Program}

def CallsSound (P:Program) (C:RunCall):Prop:=∀ f args h v h1,C f args h=some (v,h1)→SoundCall P f args h v h1
def YieldsSound (P:Program) (Y:RunYield):Prop:=∀ l args h v h1,Y l args h=some (v,h1)→SoundYield P l args h v h1
def CodeSound (P:Program) (r:RunCode):Prop:=∀ ro c a h x a1 h1,r ro c a h=some (x,a1,h1)→SoundCode P ro c a h x a1 h1

theorem stepEval_rel {C:RunCall} {Y:RunYield} (hC:CallsSound P C) (hY:YieldsSound P Y) {ev:Operand→Value} {o:Oper} {h h1:Heap} {v:Value} (he:stepEval P C Y ev o h=some (v,h1)) :
  stepRel P (SoundCall P) (SoundYield P) ev o h v h1:=by
 unfold stepEval at he
 split at he
 ·rename_i hok
  refine ⟨hok,?_⟩
  split at he
  ·rename_i r hr
   cases he
   exact .inl hr
  ·split at he
   ·rename_i k args hc
    split at he
    ·rename_i fn hf
     split at he
     ·rename_i hb
      exact .inr (.inl ⟨k,args,fn,hc,hf,hb.1,hb.2,hC _ _ _ _ _ he⟩)
     ·cases he
    ·cases he
   ·rename_i l args hc
    exact .inr (.inr ⟨l,args,hc,hY _ _ _ _ _ he⟩)
   ·cases he
 ·cases he

theorem plainEval_run {C:RunCall} {Y:RunYield} (hC:CallsSound P C) (hY:YieldsSound P Y) {ops:Array Oper} {a1:Act} {h1:Heap}:∀ (l:List Nat) (a:Act) (h:Heap),plainEval P C Y ops l a h=some (a1,h1) →
  plainRun P (SoundCall P) (SoundYield P) ops l a h a1 h1
 | [],a,h,he=>by simp only [plainEval,Option.some.injEq,Prod.mk.injEq] at he; exact ⟨he.1.symm,he.2.symm⟩
 | i :: rest,a,h,he=>by
  simp only [plainEval] at he
  split at he
  ·rename_i o ho
   refine ⟨o,ho,?_⟩
   split at he
   ·rename_i hw
    split at he
    ·rename_i v h2 hs
     exact .inl ⟨hw,v,h2,stepEval_rel hC hY hs,plainEval_run hC hY rest _ _ he⟩
    ·cases he
   ·rename_i hw
    exact .inr ⟨hw,plainEval_run hC hY rest _ _ he⟩
  ·cases he

theorem drunEval_run {C:RunCall} {Y:RunYield} (hC:CallsSound P C) (hY:YieldsSound P Y) {ops:Array Oper} {T:Nat→Nat→Bool} {a1:Act} {h1:Heap}:∀ (l:List Nat) (qs:List (Nat × Act × Oper × Value)) (a:Act) (h:Heap),
  (∀ x ∈ qs,kindOf P x.2.2.1.op=2)→drunEval P C Y ops T l qs a h=some (a1,h1)→drun P (SoundCall P) (SoundYield P) ops T l qs a h a1 h1
 | [],qs,a,h,hk,he=>by simp only [drunEval,Option.some.injEq,Prod.mk.injEq] at he; exact ⟨he.1.symm,he.2.symm⟩
 | i :: rest,qs,a,h,hk,he=>by
  simp only [drunEval] at he
  split at he
  ·rename_i o ho
   refine ⟨o,ho,?_⟩
   split at he
   ·rename_i hw
    split at he
    ·rename_i v h2 hs
     refine .inl ⟨hw,v,h2,stepEval_rel hC hY hs,?_⟩
     split at he
     ·rename_i h3
      split at he
      ·rename_i hst
       refine ⟨fun _ x hx hT=>?_,?_⟩
       ·have:=List.all_eq_true.1 hst x hx
        simp only [hT,Bool.false_or] at this
        split at this
        ·rename_i v' h' hv
         obtain ⟨e,_⟩:=read_mono (hk x hx) (Ext.refl _) hv
         rw [hv,e,sameV_eq _ _ _ this]
        ·cases this
       ·rw [if_neg (by omega)]
        exact drunEval_run hC hY rest _ _ _ hk he
      ·cases he
     ·rename_i h3
      refine ⟨fun q=>by omega,?_⟩
      rw [if_pos h3]
      refine drunEval_run hC hY rest _ _ _ (fun x hx=>?_) he
      rcases List.mem_cons.1 hx with rfl | hx
      ·exact h3
      ·exact hk x hx
     ·rename_i h3 h4
      refine ⟨fun q=>absurd q h3,?_⟩
      rw [if_neg h4]
      exact drunEval_run hC hY rest _ _ _ hk he
    ·cases he
   ·rename_i hw
    exact .inr ⟨hw,drunEval_run hC hY rest _ _ _ hk he⟩
  ·cases he

theorem callWith_sound {r:RunCode} (hr:CodeSound P r):CallsSound P (callWith P r):=by
 intro f args h v h2 he
 unfold callWith at he
 split at he
 ·rename_i fn hf
  split at he
  ·rename_i c hb
   split at he
   ·rename_i a1 h1 hrun
    split at he
    ·rename_i h3 ht
     simp only [Option.map_eq_some_iff,Prod.mk.injEq] at he
     obtain ⟨v',hv,rfl,rfl⟩:=he
     exact sound_call hf hb (hr _ _ _ _ _ _ _ hrun) (.inl rfl) ht hv
    ·cases he
   ·rename_i a1 h1 hrun
    split at he
    ·rename_i h3 ht
     simp only [Option.map_eq_some_iff,Prod.mk.injEq] at he
     obtain ⟨v',hv,rfl,rfl⟩:=he
     exact sound_call hf hb (hr _ _ _ _ _ _ _ hrun) (.inr rfl) ht hv
    ·cases he
   ·cases he
  ·cases he
 ·cases he

theorem yieldWith_sound {r:RunCode} (hr:CodeSound P r):YieldsSound P (yieldWith r):=by
 intro l args h v h2 he
 unfold yieldWith at he
 split at he
 ·rename_i L hl
  split at he
  ·rename_i hst
   split at he
   ·rename_i hsz
    split at he
    ·rename_i a1 h1 ra
     split at he
     ·rename_i L1 hl1
      split at he
      ·rename_i hst1
       split at he
       ·rename_i x a3 h3 rb
        split at he
        ·rename_i L3 j hl3 hj
         cases he
         exact sound_yield hl hst hsz (hr _ _ _ _ _ _ _ ra) hl1 hst1 (hr _ _ _ _ _ _ _ rb) hl3 hj
        ·cases he
       ·cases he
      ·cases he
     ·cases he
    ·cases he
   ·cases he
  ·cases he
 ·cases he

theorem rangeWith_sound {r:RunCode} (hr:CodeSound P r) {ro:Option Nat} {g:Operand} {params:Array Tmp} {assign body:Code} {a:Act} {h:Heap} {x:Exit} {a1:Act} {h1:Heap} (he:rangeWith P r ro g params assign body a h=some (x,a1,h1)) :
  SoundCode P ro (.rangeFunc g params assign body) a h x a1 h1:=by
 unfold rangeWith at he
 split at he
 ·rename_i hok
  split at he
  ·rename_i k0 first cap hg
   split at he
   ·rename_i fn0 hf
    split at he
    ·rename_i hb
     split at he
     ·rename_i l mark h2 hen
      split at he
      ·rename_i v h3 hc
       split at he
       ·rename_i L2 hl2
        have hcs:=callWith_sound hr _ _ _ _ _ hc
        split at he
        ·cases he
        ·rename_i hst
         split at he
         ·rename_i hp
          cases he
          exact sound_rangeFunc hok hg hf hb.1 hb.2 hen hcs hl2 hst (.inl ⟨hp,rfl,rfl,rfl⟩)
         ·rename_i c hp
          exact sound_rangeFunc hok hg hf hb.1 hb.2 hen hcs hl2 hst (.inr ⟨c,hp,hr _ _ _ _ _ _ _ he⟩)
       ·cases he
      ·cases he
     ·cases he
    ·cases he
   ·cases he
  ·cases he
 ·cases he

theorem evalCode_sound (hm:P.follows .mixedOrders=true):∀ n,CodeSound P (evalCode P n)
 | 0=>fun ro c a h x a1 h1 he=>by cases he
 | n + 1=>fun ro c a h x a1 h1 he=>by
  have ih:=evalCode_sound hm n
  unfold evalCode at he
  split at he
  ·cases he; exact sound_skip
  ·cases he; exact sound_label
  ·cases he; exact sound_exit
  ·cases he; exact sound_ret
  ·split at he
   ·rename_i a2 h2 hp
    cases he
    exact sound_region (plainEval_run (callWith_sound ih) (yieldWith_sound ih) _ _ _ hp)
   ·cases he
  ·split at he
   ·rename_i hst
    split at he
    ·rename_i a2 h2 hp
     cases he
     exact sound_draw hm (static_of hst) (drunEval_run (callWith_sound ih) (yieldWith_sound ih) _ _ _ _ (by simp) hp)
    ·cases he
   ·cases he
  ·split at he
   ·rename_i a2 h2 hp
    exact sound_seq (ih _ _ _ _ _ _ _ hp) (ih _ _ _ _ _ _ _ he)
   ·rename_i hne
    refine sound_seq_stop (fun e=>?_) (ih _ _ _ _ _ _ _ he)
    subst e
    exact hne _ _ he
  ·split at he
   ·rename_i hok
    split at he
    ·rename_i t ht
     exact sound_cond hok ht (ih _ _ _ _ _ _ _ he)
    ·cases he
   ·cases he
  ·split at he
   ·rename_i j a2 h2 hp
    cases he
    exact sound_block (ih _ _ _ _ _ _ _ hp)
   ·rename_i hne
    cases x with
    | exit j=>exact absurd he (hne j _ _)
    | _=>exact sound_block (ih _ _ _ _ _ _ _ he)
  ·split at he
   ·rename_i a2 h2 hp
    exact sound_loop_more (ih _ _ _ _ _ _ _ hp) (ih _ _ _ _ _ _ _ he)
   ·rename_i hne
    refine sound_loop_stop (fun e=>?_) (ih _ _ _ _ _ _ _ he)
    subst e
    exact hne _ _ he
  ·exact rangeWith_sound ih he
  ·cases he

/-- A call that runs. -/
theorem evalCall_sound (hm:P.follows .mixedOrders=true) (n:Nat):CallsSound P (callWith P (evalCode P n)):=callWith_sound (evalCode_sound hm n)
end
end Go.AM
