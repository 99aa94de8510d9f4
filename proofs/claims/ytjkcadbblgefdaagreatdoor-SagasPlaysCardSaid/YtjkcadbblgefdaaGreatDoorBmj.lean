/- An abstract machine for Go, part 36: loops over functions, left in any way; rows that are no rows of cells. -/
import Derived.Test.YtjkcadbblgefdaaGreatDoorBmi
namespace Go.AM

section
variable {P : Program} {h h1 : Heap} {a : Act} {c : Code} {K : Exit → Act → Heap → Prop}

/-- What a loop over a function leads to, by what its row says. -/
def leftBy (K:Exit→Act→Heap→Prop) (a:Act) (h:Heap):Option Code→Prop
  | none=>K .normal a h
  | some .ret=>K .ret a h
  | some (.exit j)=>K (.exit j) a h
  | _=>False
theorem wc_range_any {g:Operand} {params:Array Tmp} {assign body:Code} (hc:c=.rangeFunc g params assign body) (k0:FuncId) (first cap:Array Value) (l:Nat) (mark:List Deferred) (args:Array Value) (hargs:first++#[.func (.yield l) #[] #[]]++cap=args) (hok:opndOk g=true) (hg:a.eval g=.func (.func k0) first cap)
    (hr:runs P k0=true) (he:enterA h a.tmps params assign body none=some (l,mark,h1))
    (hw:WCall P k0 args h1 fun _ h2=>∃ L2,At h2 l (.loop L2)∧L2.state ≠ .busy∧leftBy K { a with defers:=mark++a.defers } (h2.setIfInBounds l (.loop { L2 with state:=.exhausted })) L2.pending):WCode P none c a h K:=by
  subst hc; subst hargs
  unfold runs at hr
  split at hr
  · rename_i fn hf
    simp only [Bool.and_eq_true,Bool.not_eq_true'] at hr
    obtain ⟨v,h2,s,L2,h3,h4,hk⟩:=hw
    have h3':h2[l]?=some (.loop L2):=h3
    unfold leftBy at hk
    split at hk
    · rename_i e; exact ⟨.normal,_,_,sound_rangeFunc hok hg hf hr.1 hr.2 he s h3' h4 (.inl ⟨e,rfl,rfl,rfl⟩),hk⟩
    · rename_i e; exact ⟨.ret,_,_,sound_rangeFunc hok hg hf hr.1 hr.2 he s h3' h4 (.inr ⟨_,e,sound_ret⟩),hk⟩
    · rename_i j e; exact ⟨.exit j,_,_,sound_rangeFunc hok hg hf hr.1 hr.2 he s h3' h4 (.inr ⟨_,e,sound_exit⟩),hk⟩
    · exact hk.elim
  · cases hr

/-- What a round leads to. -/
def roundBy (K:Bool→Heap→Prop) (l:Nat) (L3:Loop) (h:Heap):Exit→Prop
  | .normal=>K true (h.setIfInBounds l (.loop { L3 with state:=.ready,pending:=none }))
  | .ret=>K false (h.setIfInBounds l (.loop { L3 with state:=.done,pending:=some .ret }))
  | .exit j=>K false (h.setIfInBounds l (.loop { L3 with state:=.done,pending:=some (.exit j) }))
  | _=>False
theorem w_round {l:Nat} {args:Array Value} {L:Loop} {K:Bool→Heap→Prop} (hl:At h l (.loop L)) (hst:L.state=.ready) (hsz:args.size=L.params.size) (a0:Act) (ha:a0={ tmps:=roundTmps L args,defers:=[] }) (A B:Code) (hA:L.assign=A) (hB:L.body=B)
    (hw:WCode P (some l) A a0 h fun x a1 h1=>x=.normal∧∃ L1,At h1 l (.loop L1)∧L1.state=.ready∧WCode P (some l) B a1 (h1.setIfInBounds l (.loop { L1 with state:=.busy })) fun x a2 h3=>∃ L3,At h3 l (.loop L3)∧roundBy K l L3 h3 x) :
    ∃ b h',SoundYield P l args h (.bool b) h'∧K b h':=by
  subst ha; subst hA; subst hB
  obtain ⟨x,a1,h1,sa,rfl,L1,h2,h3,x2,a2,h4,sb,L3,h5,hk⟩:=hw
  cases x2 with
  | normal=>exact ⟨_,_,sound_yield (j:=none) hl hst hsz sa h2 h3 sb h5 rfl,hk⟩
  | ret=>exact ⟨_,_,sound_yield (j:=some .ret) hl hst hsz sa h2 h3 sb h5 rfl,hk⟩
  | exit j=>exact ⟨_,_,sound_yield (j:=some (.exit j)) hl hst hsz sa h2 h3 sb h5 rfl,hk⟩
  | _=>exact hk.elim
theorem loop_back {L:Loop} (hs:L.state=.ready) (hp:L.pending=none):({ ({ L with state:=.busy }:Loop) with state:=.ready,pending:=none }:Loop)=L:=by
  cases L; simp at hs hp; subst hs; subst hp; rfl

/-- A row of cells, and another one. -/
theorem loop_ne {l b q:Nat} {L:Loop} {cs:Array Value} {e:TypeId} {fr:Nat × Nat} (k:At h l (.loop L)) (k2:h[b]?=some (.cells cs e fr)) (hq:q=l):¬ q=b:=by
  rintro rfl; subst hq
  have:h[q]?=some (.loop L):=k
  rw [k2] at this; cases this
theorem defer_ne {l b q:Nat} {d:Option (List Deferred)} {cs:Array Value} {e:TypeId} {fr:Nat × Nat} (k:At h l (.deferred d)) (k2:h[b]?=some (.cells cs e fr)) (hq:q=l):¬ q=b:=by
  rintro rfl; subst hq
  have:h[q]?=some (.deferred d):=k
  rw [k2] at this; cases this
/-- That a predicate's blocks hold rows of cells. -/
def Celled (h:Heap) (O:Nat→Prop):Prop:=∀ b,O b→∃ cs e fr,h[b]?=some (.cells cs e fr)
theorem Celled.loop {O:Nat→Prop} (k:Celled h O) {l:Nat} {L:Loop} (kl:At h l (.loop L)) (b:Nat) (hb:O b):¬ b=l:=by
  obtain ⟨cs,e,fr,hr⟩:=k b hb
  exact fun w=>loop_ne kl hr w rfl
theorem Celled.defer {O:Nat→Prop} (k:Celled h O) {l:Nat} {d:Option (List Deferred)} (kl:At h l (.deferred d)) (b:Nat) (hb:O b):¬ b=l:=by
  obtain ⟨cs,e,fr,hr⟩:=k b hb
  exact fun w=>defer_ne kl hr w rfl
theorem OwnAt.celled {α:Type} {f:α→Array Value} {e:TypeId} {xs:List α} {v:Value} (k:OwnAt h e f xs v):Celled h (blk v):=by
  intro b hb
  rcases k with ⟨rfl,k⟩ | ⟨b',rfl,hx,k⟩ | ⟨b',rfl,hx,k⟩
  · exact hb.elim
  · cases hb; exact ⟨_,_,_,k⟩
  · cases hb; exact ⟨_,_,_,k⟩
theorem leftBy_none {o:Option Code} (e:o=none) (k:K .normal a h):leftBy K a h o:=by subst e; exact k
/-- A function's end behind a loop over a function, reckoned. -/
theorem end_mark3 {T:Hints} {f:FuncId} {K:Value→Heap→Prop} {x:Exit} {a0:Act} {dv:Nat} (a1:Act) (ha:a0=a1) (hx:x=.normal ∨ x=.ret) (hd:a1.defers=[{ target:=.collected dv,args:=#[] }]) (hr:At h dv (.deferred (some [])))
    (e1:h1=h.setIfInBounds dv (.deferred none)) {A:Prop} (e:hEndF P T f K .ret { a1 with defers:=[] } h1=A) (hA:A):endPost P f K x a0 h:=by
  subst ha; subst e1
  intro fn hf
  have q:=end_at e hA fn hf
  obtain ⟨_,h2,v,ht,hv,hk⟩:=q
  simp only [takeA,Option.some.injEq] at ht
  subst ht
  refine ⟨hx,_,v,?_,hv,hk⟩
  rw [hd]
  have:h[dv]?=some (.deferred (some [])):=hr
  simp only [takeA,this]
end
end Go.AM
