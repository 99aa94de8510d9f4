/- An abstract machine for Go, parts 1 to 6. -/
import Derived.RangeFuncLeaves
import Derived.RangeFuncRecord
import Derived.RangeFuncSeq
import Derived.Orders
import Derived.Laws.Cells
import Derived.Laws.Entries
import Derived.Laws.AppendOwn
import Derived.Laws.StructEq
import Derived.Laws.Tables
import Derived.Laws.Small
import Derived.Laws.Pointers
import Derived.Laws.Cover3
import Derived.WalkSpells
namespace Go.AM

abbrev Heap:=Array Obj
/-- The program's variables that may be named. -/
def globList:List Nat:=[0,1]
/-- The heap as a function. -/
def hget (h:Heap):Nat→Option Obj:=fun b=>h[b]?

/-- A renaming: canonical blocks to the world's; which canonical rows may have hidden room behind them (the cells of an element, the cells of the world's row); which are dead; for which address of an empty slice without room a canonical block stands that stands for no block. -/
structure Ren where
  map:Nat→Option Nat
  slack:Nat→Option (Nat × Nat)
  dead:Nat→Bool
  ghost:Nat→Option Addr

def BR (R:Ren) (b b':Nat):Prop:=R.dead b=true ∨ R.map b=some b'
def AR (R:Ren) (a a':Addr):Prop:=a.spot=none∧a'.spot=none∧(R.dead a.block=true ∨ (R.map a.block=some a'.block∧a'.off=a.off))
/-- The address of a slice of n elements (an empty slice without room may lie anywhere in its row). -/
def SAR (R:Ren) (a a':Addr) (n c':Nat):Prop:=a.spot=none∧a'.spot=none∧(R.dead a.block=true ∨ (R.map a.block=some a'.block∧(a'.off=a.off ∨ (n=0∧c'=0∧R.slack a.block ≠ none))))
def CapR (R:Ren) (a:Addr) (c c':Nat):Prop :=
  c'=c ∨ (∃ z r,R.slack a.block=some (z,r)∧¬(c=0∧a.off=0)∧c≤c'∧a.off + c' * z≤r) ∨ R.dead a.block=true
def GhR (R:Ren) (a a':Addr) (n c c':Nat):Prop:=R.ghost a.block=some a'∧n=0∧c=0∧c'=0∧a.off=0∧a.spot=none
def FnR (R:Ren):Fn→Fn→Prop
  | .yield l,f=>∃ l',f=.yield l'∧BR R l l'
  | g,f=>f=g
def ArrR (X:Value→Value→Prop) (cs cs':Array Value):Prop :=
  cs'.size=cs.size∧∀ (i:Nat) (v v':Value),cs[i]?=some v→cs'[i]?=some v'→X v v'

/-- What a token may stand for. -/
def opq:Value→Bool
  | .agg _ | .tuple _ | .bool _ | .nilIface=>false
  | _=>true
theorem opq_cells {v:Value} (h:opq v=true):v.cells=#[v]:=by cases v <;> first | rfl | simp [opq] at h

/-- One layer of the relation between values. -/
def VStep (R:Ren) (X:Value→Value→Prop):Value→Value→Prop
  | .bool b,v=>v=.bool b
  | .int k n,v=>v=.int k n
  | .float k b,v=>v=.float k b
  | .complex k x y,v=>v=.complex k x y
  | .string s,v=>v=.string s
  | .pointer none,v=>v=.pointer none
  | .pointer (some a),v=>∃ a',v=.pointer (some a')∧AR R a a'
  | .slice none n c,v=>v=.slice none n c
  | .slice (some a) n c,v=>∃ a' c',v=.slice (some a') n c'∧(SAR R a a' n c'∧CapR R a c c' ∨ GhR R a a' n c c')
  | .map none,v=>v=.map none
  | .map (some r),v=>∃ r',v=.map (some r')∧BR R r r'
  | .nilFunc,v=>v=.nilFunc
  | .iface _ u,v=>v=u∧opq v=true
  | .nilIface,v=>v=.nilIface
  | .func fn first cap,v=>∃ fn' first' cap',v=.func fn' first' cap'∧FnR R fn fn'∧ArrR X first first'∧ArrR X cap cap'
  | .agg cs,v=>∃ cs',v=.agg cs'∧ArrR X cs cs'
  | .tuple cs,v=>∃ cs',v=.tuple cs'∧ArrR X cs cs'
  | _,_=>False

theorem ArrR.mono {X Y:Value→Value→Prop} (h:∀ u u',X u u'→Y u u') {cs cs':Array Value} (k:ArrR X cs cs'):ArrR Y cs cs' :=
  ⟨k.1,fun i v v' hv hv'=>h _ _ (k.2 i v v' hv hv')⟩

/-- Renamings grow; blocks may die. -/
structure Ren.le (R R':Ren):Prop where
  map:∀ b g,R.map b=some g→R'.map b=some g ∨ R'.dead b=true
  dead:∀ b,R.dead b=true→R'.dead b=true
  slack:∀ b g,R.map b=some g→R'.slack b=R.slack b ∨ R'.dead b=true
  ghost:R'.ghost=R.ghost

theorem Ren.le.refl (R:Ren):R.le R:=⟨fun _ _ h=>.inl h,fun _ h=>h,fun _ _ _=>.inl rfl,rfl⟩

theorem BR.mono {R R':Ren} (h:R.le R') {b b':Nat} (k:BR R b b'):BR R' b b':=by
  rcases k with k | k
  · exact .inl (h.dead _ k)
  · rcases h.map _ _ k with k | k
    · exact .inr k
    · exact .inl k

theorem AR.mono {R R':Ren} (h:R.le R') {a a':Addr} (k:AR R a a'):AR R' a a':=by
  refine ⟨k.1,k.2.1,?_⟩
  rcases k.2.2 with k | ⟨k,ko⟩
  · exact .inl (h.dead _ k)
  · rcases h.map _ _ k with k | k
    · exact .inr ⟨k,ko⟩
    · exact .inl k

theorem SAR.mono {R R':Ren} (h:R.le R') {a a':Addr} {n c':Nat} (k:SAR R a a' n c'):SAR R' a a' n c':=by
  refine ⟨k.1,k.2.1,?_⟩
  rcases k.2.2 with k | ⟨k,ko⟩
  · exact .inl (h.dead _ k)
  · rcases h.map _ _ k with k1 | k1
    · rcases h.slack _ _ k with e | e
      · exact .inr ⟨k1,by rw [e]; exact ko⟩
      · exact .inl e
    · exact .inl k1

theorem CapR.mono {R R':Ren} (h:R.le R') {a a':Addr} {n:Nat} {c c':Nat} (ha:SAR R a a' n c') (k:CapR R a c c'):CapR R' a c c':=by
  rcases k with k | k | k
  · exact .inl k
  · rcases ha.2.2 with hd | ⟨hm,_⟩
    · exact .inr (.inr (h.dead _ hd))
    · rcases h.slack _ _ hm with e | e
      · exact .inr (.inl (by rw [e]; exact k))
      · exact .inr (.inr e)
  · exact .inr (.inr (h.dead _ k))

theorem FnR.mono {R R':Ren} (h:R.le R') {f f':Fn} (k:FnR R f f'):FnR R' f f':=by
  cases f <;> simp only [FnR] at k ⊢ <;> try exact k
  obtain ⟨l',e,hb⟩:=k
  exact ⟨l',e,hb.mono h⟩

theorem VStep.mono {R R':Ren} {X Y:Value→Value→Prop} (hR:R.le R') (h:∀ u u',X u u'→Y u u') {v v':Value} (k:VStep R X v v'):VStep R' Y v v':=by
  unfold VStep at k ⊢
  split at k <;> try exact k
  · obtain ⟨a',e,ha⟩:=k; exact ⟨a',e,ha.mono hR⟩
  · obtain ⟨a',c',e,hq⟩:=k
    refine ⟨a',c',e,?_⟩
    rcases hq with ⟨ha,hc⟩ | hg
    · exact .inl ⟨ha.mono hR,hc.mono hR ha⟩
    · exact .inr (by unfold GhR at hg ⊢; rw [hR.ghost]; exact hg)
  · obtain ⟨r',e,hb⟩:=k; exact ⟨r',e,hb.mono hR⟩
  · obtain ⟨fn',first',cap',e,hf,h1,h2⟩:=k; exact ⟨fn',first',cap',e,hf.mono hR,h1.mono h,h2.mono h⟩
  · obtain ⟨cs',e,hc⟩:=k; exact ⟨cs',e,hc.mono h⟩
  · obtain ⟨cs',e,hc⟩:=k; exact ⟨cs',e,hc.mono h⟩

/-- The relation between a canonical value and a value of the world: the greatest one that each layer bears. -/
def VR (R:Ren) (v v':Value):Prop:=∃ X:Value→Value→Prop,(∀ u u',X u u'→VStep R X u u')∧X v v'

theorem VR.step {R:Ren} {v v':Value} (h:VR R v v'):VStep R (VR R) v v':=by
  obtain ⟨X,hX,hv⟩:=h
  exact (hX _ _ hv).mono (.refl R) fun u u' hu=>⟨X,hX,hu⟩

theorem VR.mk {R:Ren} {v v':Value} (h:VStep R (VR R) v v'):VR R v v' :=
  ⟨VStep R (VR R),fun _ _ hu=>hu.mono (.refl R) fun _ _ k=>k.step,h⟩

theorem VR.mono {R R':Ren} (h:R.le R') {v v':Value} (k:VR R v v'):VR R' v v' :=
  ⟨VR R,fun _ _ hu=>hu.step.mono h fun _ _ k=>k,k⟩

section inv
variable {R : Ren} {v : Value}
theorem VR_iff {u:Value}:VR R u v ↔ VStep R (VR R) u v:=⟨VR.step,VR.mk⟩
@[simp] theorem VR_bool {b:Bool}:VR R (.bool b) v ↔ v=.bool b:=VR_iff
@[simp] theorem VR_int {k:IntKind} {n:Int}:VR R (.int k n) v ↔ v=.int k n:=VR_iff
@[simp] theorem VR_float {k:FloatKind} {n:Nat}:VR R (.float k n) v ↔ v=.float k n:=VR_iff
@[simp] theorem VR_complex {k:FloatKind} {n m:Nat}:VR R (.complex k n m) v ↔ v=.complex k n m:=VR_iff
@[simp] theorem VR_string {s:ByteArray}:VR R (.string s) v ↔ v=.string s:=VR_iff
@[simp] theorem VR_nilptr:VR R (.pointer none) v ↔ v=.pointer none:=VR_iff
@[simp] theorem VR_ptr {a:Addr}:VR R (.pointer (some a)) v ↔ ∃ a',v=.pointer (some a')∧AR R a a':=VR_iff
@[simp] theorem VR_nilslice {n c:Nat}:VR R (.slice none n c) v ↔ v=.slice none n c:=VR_iff
@[simp] theorem VR_slice {a:Addr} {n c:Nat}:VR R (.slice (some a) n c) v ↔ ∃ a' c',v=.slice (some a') n c'∧(SAR R a a' n c'∧CapR R a c c' ∨ GhR R a a' n c c'):=VR_iff
@[simp] theorem VR_nilmap:VR R (.map none) v ↔ v=.map none:=VR_iff
@[simp] theorem VR_map {r:Nat}:VR R (.map (some r)) v ↔ ∃ r',v=.map (some r')∧BR R r r':=VR_iff
@[simp] theorem VR_nilfunc:VR R .nilFunc v ↔ v=.nilFunc:=VR_iff
@[simp] theorem VR_niliface:VR R .nilIface v ↔ v=.nilIface:=VR_iff
@[simp] theorem VR_func {fn:Fn} {fs cap:Array Value}:VR R (.func fn fs cap) v ↔ ∃ fn' first' cap',v=.func fn' first' cap'∧FnR R fn fn'∧ArrR (VR R) fs first'∧ArrR (VR R) cap cap':=VR_iff
@[simp] theorem VR_agg {cs:Array Value}:VR R (.agg cs) v ↔ ∃ cs',v=.agg cs'∧ArrR (VR R) cs cs':=VR_iff
@[simp] theorem VR_tuple {cs:Array Value}:VR R (.tuple cs) v ↔ ∃ cs',v=.tuple cs'∧ArrR (VR R) cs cs':=VR_iff
@[simp] theorem VR_chan {r:Option Nat}:VR R (.chan r) v ↔ False:=by rw [VR_iff]; simp [VStep]
theorem VR_tok {t:TypeId} {u:Value}:VR R (.iface t u) v ↔ v=u∧opq v=true:=VR_iff
end inv

section arr
variable {R : Ren}
theorem ArrR.empty (X:Value→Value→Prop):ArrR X #[] #[]:=⟨rfl,by simp⟩
theorem ArrR.get {X:Value→Value→Prop} {cs cs':Array Value} (h:ArrR X cs cs') {i:Nat} {v:Value} (hv:cs[i]?=some v):∃ v',cs'[i]?=some v'∧X v v':=by
  have hi:i < cs'.size:=by rw [h.1]; exact (Array.getElem?_eq_some_iff.1 hv).1
  exact ⟨cs'[i],by simp [hi],h.2 i v _ hv (by simp [hi])⟩
theorem ArrR.push {X:Value→Value→Prop} {cs cs':Array Value} (h:ArrR X cs cs') {v v':Value} (hv:X v v'):ArrR X (cs.push v) (cs'.push v'):=by
  refine ⟨by simp [h.1],fun i u u' hu hu'=>?_⟩
  rw [Array.getElem?_push] at hu hu'
  rw [h.1] at hu'
  split at hu
  · rename_i hi; rw [if_pos hi] at hu'; cases hu; cases hu'; exact hv
  · rename_i hi; rw [if_neg hi] at hu'; exact h.2 i _ _ hu hu'
theorem ArrR.append {X:Value→Value→Prop} {a a' b b':Array Value} (h:ArrR X a a') (k:ArrR X b b'):ArrR X (a++b) (a'++b'):=by
  refine ⟨by simp [h.1,k.1],fun i u u' hu hu'=>?_⟩
  rw [Array.getElem?_append] at hu hu'
  rw [h.1] at hu'
  split at hu
  · rename_i hi; rw [if_pos hi] at hu'; exact h.2 _ _ _ hu hu'
  · rename_i hi; rw [if_neg hi] at hu'; exact k.2 _ _ _ hu hu'
theorem ArrR.set {X:Value→Value→Prop} {cs cs':Array Value} (h:ArrR X cs cs') (j:Nat) {v v':Value} (hv:X v v'):ArrR X (cs.setIfInBounds j v) (cs'.setIfInBounds j v'):=by
  refine ⟨by simp [h.1],fun i u u' hu hu'=>?_⟩
  rw [Array.getElem?_setIfInBounds] at hu hu'
  rw [h.1] at hu'
  split at hu
  · rename_i e
    rw [if_pos e] at hu'
    split at hu
    · rename_i hlt; rw [if_pos hlt] at hu'; cases hu; cases hu'; exact hv
    · cases hu
  · rename_i e; rw [if_neg e] at hu'; exact h.2 _ _ _ hu hu'
theorem ArrR.extract {X:Value→Value→Prop} {cs cs':Array Value} (h:ArrR X cs cs') (i j:Nat):ArrR X (cs.extract i j) (cs'.extract i j):=by
  refine ⟨by simp [h.1],fun k u u' hu hu'=>?_⟩
  rw [Array.getElem?_extract] at hu hu'
  rw [h.1] at hu'
  split at hu
  · rename_i hk; rw [if_pos hk] at hu'; exact h.2 _ _ _ hu hu'
  · cases hu
theorem ArrR.one {X:Value→Value→Prop} {v v':Value} (h:X v v'):ArrR X #[v] #[v']:=by
  have:=(ArrR.empty X).push h
  simpa using this
theorem ArrR.replicate {X:Value→Value→Prop} (n:Nat) {v v':Value} (h:X v v'):ArrR X (Array.replicate n v) (Array.replicate n v') :=
  ⟨by simp,fun i u u' hu hu'=>by
    rw [Array.getElem?_replicate] at hu hu'
    split at hu
    · rename_i hi; rw [if_pos hi] at hu'; cases hu; cases hu'; exact h
    · cases hu⟩
theorem VR.cells {v v':Value} (h:VR R v v'):ArrR (VR R) v.cells v'.cells:=by
  have h0:=h
  cases v
  case agg cs=>rw [VR_agg] at h; obtain ⟨cs',rfl,hc⟩:=h; exact hc
  case pointer a=>cases a <;> simp at h <;> first | (subst h; exact ArrR.one h0) | (obtain ⟨_,rfl,_⟩:=h; exact ArrR.one h0)
  case slice a n c=>cases a <;> simp at h <;> first | (subst h; exact ArrR.one h0) | (obtain ⟨_,rfl,_⟩:=h; exact ArrR.one h0) | (obtain ⟨_,_,rfl,_⟩:=h; exact ArrR.one h0)
  case map r=>cases r <;> simp at h <;> first | (subst h; exact ArrR.one h0) | (obtain ⟨_,rfl,_⟩:=h; exact ArrR.one h0)
  case func f a b=>rw [VR_func] at h; obtain ⟨_,_,_,rfl,_⟩:=h; exact ArrR.one h0
  case tuple cs=>rw [VR_tuple] at h; obtain ⟨_,rfl,_⟩:=h; exact ArrR.one h0
  case chan r=>simp at h
  case iface t u=>rw [VR_tok] at h; rw [opq_cells h.2]; exact ArrR.one h0
  all_goals (simp at h; subst h; exact ArrR.one h0)
end arr


def isSlack:Option Obj→Bool
  | some (.cells _ _ fr)=>decide (fr=(1,1))
  | _=>false
def inFr (fr:Nat × Nat) (i:Nat):Bool:=decide (fr.1≤i) && decide (i < fr.2)

/-- Two maps with numbers as keys hold the same pairs, in whatever orders. -/
structure Shuf (R:Ren) (es es':List MapEntry) (ck':Nat):Prop where
  ints:∀ e ∈ es,∃ x,e.key=.int .i64 x
  apart:(es.map (·.key)).Nodup
  perm:(es'.map (·.key)).Perm (es.map (·.key))
  vals:∀ e ∈ es,∀ e' ∈ es',e'.key=e.key→VR R e.val e'.val
  born:∀ e' ∈ es',e'.born < ck'
  borns:(es'.map (·.born)).Nodup

structure LoopR (R:Ren) (l l':Loop):Prop where
  state:l'.state=l.state
  pending:l'.pending=l.pending
  tmps:ArrR (VR R) l.tmps l'.tmps
  params:l'.params=l.params
  assign:l'.assign=l.assign
  body:l'.body=l.body
  defers:BR R l.defers l'.defers

def ObjR (R:Ren):Obj→Obj→Prop
  | .cells c e fr,o=>∃ c' e' fr',o=.cells c' e' fr'∧c.size≤c'.size∧(∀ (i:Nat) (v:Value),c[i]?=some v→∃ v',c'[i]?=some v'∧VR R v v') ∧
      (∀ i,i < c.size→inFr fr' i=inFr fr i)
  | .map es _,o=>∃ es' ck',o=.map es' ck'∧Shuf R es.toList es'.toList ck'
  | .loop l,o=>∃ l',o=.loop l'∧LoopR R l l'
  | .deferred d,o=>o=.deferred d∧(d=none ∨ d=some [])
  | .stringIter s p,o=>o=.stringIter s p
  | _,_=>False

theorem Shuf.mono {R R':Ren} (h:R.le R') {es es':List MapEntry} {ck':Nat} (k:Shuf R es es' ck'):Shuf R' es es' ck':=⟨k.ints,k.apart,k.perm,fun e he e' he' q=>(k.vals e he e' he' q).mono h,k.born,k.borns⟩
theorem ArrR.monoR {R R':Ren} (h:R.le R') {c c':Array Value} (k:ArrR (VR R) c c'):ArrR (VR R') c c':=ArrR.mono (fun _ _ hu=>hu.mono h) k
theorem LoopR.mono {R R':Ren} (h:R.le R') {l l':Loop} (k:LoopR R l l'):LoopR R' l l' :=
  ⟨k.state,k.pending,k.tmps.monoR h,k.params,k.assign,k.body,k.defers.mono h⟩
theorem ObjR.mono {R R':Ren} (h:R.le R') {o o':Obj} (k:ObjR R o o'):ObjR R' o o':=by
  cases o <;> simp only [ObjR] at k ⊢ <;> try exact k
  · obtain ⟨c',e',fr',e,hs,hv,hf⟩:=k
    exact ⟨c',e',fr',e,hs,fun i v hi=>let ⟨v',h1,h2⟩:=hv i v hi; ⟨v',h1,h2.mono h⟩,hf⟩
  · obtain ⟨es',ck',e,hs⟩:=k
    exact ⟨es',ck',e,hs.mono h⟩
  · obtain ⟨l',e,hl⟩:=k
    exact ⟨l',e,hl.mono h⟩

/-- How many cells a value of a type has. -/
def tsz (P:Program) (t:TypeId):Nat:=((P.info? t).map (·.size)).getD 0

/-- What is known of the hidden room of a row. -/
def SlackOk (P:Program) (sl:Option (Nat × Nat)) (o o':Obj):Prop :=
  isSlack (some o)=sl.isSome∧∀ z r,sl=some (z,r)→(∃ c e,o=.cells c e (1,1)∧z=tsz P e)∧∃ c' e' fr',o'=.cells c' e' fr'∧c'.size=r∧∀ i,i < r→inFr fr' i=false

/-- What a row that was let go has become. -/
def deadRow:Obj:=.cells #[] 0 (2,2)

/-- The canonical heap m stands for the world w, by R. -/
structure Rel (P:Program) (R:Ren) (m:Nat→Option Obj) (w:World):Prop where
  inj:∀ b b' g,R.map b=some g→R.map b'=some g→b=b'
  obj:∀ b g,R.map b=some g→∃ o o',m b=some o∧w.heap[g]?=some o'∧ObjR R o o'∧SlackOk P (R.slack b) o o'
  dead:∀ b,R.dead b=true→R.map b=none∧m b=some deadRow
  glob:∀ g ∈ globList,R.dead g=true ∨ R.map g=some g

/-- A row keeps its length, its type and its marks. -/
def sameShape:Option Obj→Option Obj→Prop
  | some (.cells c e fr),o'=>∃ c',o'=some (.cells c' e fr)∧c'.size=c.size
  | _,_=>True
theorem sameShape.refl (o:Option Obj):sameShape o o:=by
  unfold sameShape
  split
  · exact ⟨_,rfl,rfl⟩
  · trivial
theorem sameShape.trans {o o' o'':Option Obj} (a:sameShape o o') (b:sameShape o' o''):sameShape o o'':=by
  unfold sameShape at a
  split at a
  · obtain ⟨c',rfl,h1⟩:=a
    obtain ⟨c'',h2,h3⟩:=b
    exact ⟨c'',h2,h3.trans h1⟩
  · unfold sameShape
    split
    · rename_i h; exact absurd rfl (h _ _ _)
    · trivial

/-- What a piece of a run has done, on both sides. -/
structure Sim (P:Program) (R:Ren) (h:Heap) (w:World) (R':Ren) (h':Heap) (w':World):Prop where
  rel:Rel P R' (hget h') w'
  le:R.le R'
  hsz:h.size≤h'.size
  canon:∀ b,b < h.size→R.map b=none→h'[b]?=h[b]?
  old:∀ b,b < h.size→R.map b=none→R'.map b=none∧R'.dead b=R.dead b
  os:w'.os=w.os
  tape:w'.tape=w.tape
  output:w'.output=w.output
  wsz:w.heap.size≤w'.heap.size
  conc:∀ k,k < w.heap.size→(∀ b,R.map b ≠ some k)→w'.heap[k]?=w.heap[k]?
  newc:∀ b g,R'.map b=some g→R.map b=some g ∨ (h.size≤b∧(w.heap.size≤g ∨ ∃ b0,R.map b0=some g∧R.slack b0 ≠ none))
  shape:∀ g,g < w.heap.size→(∀ b,R.map b=some g→R.slack b=none)→sameShape (w.heap[g]?) (w'.heap[g]?)

section
variable {P : Program} {R R' R'' : Ren} {h h' h'' : Heap} {w w' w'' : World}

theorem Rel.lt (k:Rel P R (hget h) w) {b g:Nat} (e:R.map b=some g):b < h.size∧g < w.heap.size:=by
  obtain ⟨o,o',h1,h2,_,_⟩:=k.obj b g e
  exact ⟨(Array.getElem?_eq_some_iff.1 h1).1,(Array.getElem?_eq_some_iff.1 h2).1⟩
theorem Rel.dead_lt (k:Rel P R (hget h) w) {b:Nat} (e:R.dead b=true):b < h.size:=by
  obtain ⟨_,h1⟩:=k.dead b e
  exact (Array.getElem?_eq_some_iff.1 h1).1

theorem Sim.refl (k:Rel P R (hget h) w):Sim P R h w R h w :=
  ⟨k,.refl R,Nat.le_refl _,fun _ _ _=>rfl,fun _ _ e=>⟨e,rfl⟩,rfl,rfl,rfl,Nat.le_refl _,fun _ _ _=>rfl,fun _ _ e=>.inl e,fun _ _ _=>sameShape.refl _⟩

theorem Ren.le.trans (a:R.le R') (b:R'.le R''):R.le R'' :=
  ⟨fun x g e=>by
    rcases a.map x g e with e' | e'
    · exact b.map x g e'
    · exact .inr (b.dead x e'),
   fun x e=>b.dead x (a.dead x e),
   fun x g e=>by
    rcases a.map x g e with e' | e'
    · rcases b.slack x g e' with s | s
      · rcases a.slack x g e with t | t
        · exact .inl (s.trans t)
        · exact .inr (b.dead x t)
      · exact .inr s
    · exact .inr (b.dead x e'),b.ghost.trans a.ghost⟩

theorem Sim.trans (a:Sim P R h w R' h' w') (b:Sim P R' h' w' R'' h'' w''):Sim P R h w R'' h'' w'' where
  rel:=b.rel
  le:=a.le.trans b.le
  hsz:=Nat.le_trans a.hsz b.hsz
  canon:=fun x hx e=>(b.canon x (Nat.lt_of_lt_of_le hx a.hsz) (a.old x hx e).1).trans (a.canon x hx e)
  old:=fun x hx e=>by
    obtain ⟨e1,e2⟩:=a.old x hx e
    obtain ⟨f1,f2⟩:=b.old x (Nat.lt_of_lt_of_le hx a.hsz) e1
    exact ⟨f1,f2.trans e2⟩
  os:=b.os.trans a.os
  tape:=b.tape.trans a.tape
  output:=b.output.trans a.output
  wsz:=Nat.le_trans a.wsz b.wsz
  conc:=fun k hk e=>by
    refine (b.conc k (Nat.lt_of_lt_of_le hk a.wsz) fun x ex=>?_).trans (a.conc k hk e)
    rcases a.newc x k ex with e1 | ⟨_,e1 | ⟨b0,e1,_⟩⟩
    · exact e x e1
    · omega
    · exact e b0 e1
  newc:=fun x g e=>by
    rcases b.newc x g e with e1 | ⟨h1,e1⟩
    · exact a.newc x g e1
    · refine .inr ⟨Nat.le_trans a.hsz h1,?_⟩
      rcases e1 with e1 | ⟨b0,e1,e3⟩
      · exact .inl (Nat.le_trans a.wsz e1)
      · rcases a.newc b0 g e1 with e2 | ⟨_,e2⟩
        · rcases a.le.slack b0 g e2 with e4 | e4
          · exact .inr ⟨b0,e2,by rw [← e4]; exact e3⟩
          · have:=(a.rel.dead b0 e4).1; rw [e1] at this; cases this
        · exact e2
  shape:=fun g hg hs=>(a.shape g hg hs).trans (b.shape g (Nat.lt_of_lt_of_le hg a.wsz) fun x hx=>by
    rcases a.newc x g hx with e1 | ⟨_,e1 | ⟨b0,e1,e2⟩⟩
    · rcases a.le.slack x g e1 with e4 | e4
      · rw [e4]; exact hs x e1
      · have:=(a.rel.dead x e4).1; rw [hx] at this; cases this
    · omega
    · exact absurd (hs b0 e1) e2)

/-- A draw turns nothing. -/
theorem Rel.of_heap {m:Nat→Option Obj} (k:Rel P R m w) (e:w'.heap=w.heap):Rel P R m w' :=
  ⟨k.inj,fun b g hb=>by rw [e]; exact k.obj b g hb,k.dead,k.glob⟩
/-- The variables stay where they are. -/
theorem Rel.glob_le {m:Nat→Option Obj} (k:Rel P R m w) (hle:R.le R'):∀ g ∈ globList,R'.dead g=true ∨ R'.map g=some g:=fun g hg=>by
  rcases k.glob g hg with q | q
  · exact .inl (hle.dead _ q)
  · rcases hle.map _ _ q with q | q
    · exact .inr q
    · exact .inl q
theorem Sim.same (k:Rel P R (hget h) w) (e:w'.heap=w.heap) (e1:w'.os=w.os) (e2:w'.tape=w.tape) (e3:w'.output=w.output):Sim P R h w R h w' :=
  ⟨k.of_heap e,.refl R,Nat.le_refl _,fun _ _ _=>rfl,fun _ _ e=>⟨e,rfl⟩,e1,e2,e3,by rw [e]; exact Nat.le_refl _,fun _ _ _=>by rw [e],fun _ _ e=>.inl e,fun _ _ _=>by rw [e]; exact sameShape.refl _⟩

/-- The renaming with one pair more. -/
def Ren.bind (R:Ren) (b g:Nat) (sl:Option (Nat × Nat)):Ren :=
  { map:=fun x=>if x=b then some g else R.map x,slack:=fun x=>if x=b then sl else R.slack x,dead:=R.dead,ghost:=R.ghost }

theorem Ren.le_bind (k:Rel P R (hget h) w) (g:Nat) (sl:Option (Nat × Nat)):R.le (R.bind h.size g sl) :=
  ⟨fun x g' e=>.inl (by have:=(k.lt e).1; simp [Ren.bind,e]; omega),
   fun x e=>e,
   fun x g' e=>.inl (by have:=(k.lt e).1; simp [Ren.bind]; omega),rfl⟩

theorem hget_push (h:Heap) (o:Obj) (b:Nat):hget (h.push o) b=if b=h.size then some o else hget h b:=by
  simp [hget,Array.getElem?_push]

theorem hget_set (h:Heap) (b:Nat) (o:Obj) (x:Nat):hget (h.setIfInBounds b o) x=if b=x then (if b < h.size then some o else none) else hget h x:=by
  simp [hget,Array.getElem?_setIfInBounds]

/-- A new block on the canonical side that stands for a block g of the new world to which no other belongs. -/
theorem Sim.bindNew (k:Rel P R (hget h) w) {o o':Obj} {g:Nat} {sl:Option (Nat × Nat)} (hsl:SlackOk P sl o o') (hfree:∀ b,R.map b ≠ some g) (hg:w'.heap[g]?=some o')
    (hother:∀ b x,R.map b=some x→w'.heap[x]?=w.heap[x]?) (ho:ObjR (R.bind h.size g sl) o o')
    (e1:w'.os=w.os) (e2:w'.tape=w.tape) (e3:w'.output=w.output) (hsz:w.heap.size≤w'.heap.size)
    (hc:∀ x,x < w.heap.size→x ≠ g→w'.heap[x]?=w.heap[x]?) (hnew:w.heap.size≤g ) :
    Sim P R h w (R.bind h.size g sl) (h.push o) w':=by
  have hle:=Ren.le_bind k g sl
  refine ⟨⟨?_,?_,?_,k.glob_le hle⟩,hle,by simp,?_,?_,e1,e2,e3,hsz,fun x hx _=>hc x hx (by omega),?_,fun x hx _=>by rw [hc x hx (by omega)]; exact sameShape.refl _⟩
  · intro b b' x hb hb'
    simp only [Ren.bind] at hb hb'
    split at hb <;> split at hb'
    · omega
    · cases hb; exact absurd hb' (hfree _)
    · cases hb'; exact absurd hb (hfree _)
    · exact k.inj _ _ _ hb hb'
  · intro b x hb
    simp only [Ren.bind] at hb
    rw [hget_push]
    split at hb
    · rename_i e; cases hb; rw [if_pos e]; exact ⟨o,o',rfl,hg,ho,by simp only [Ren.bind]; rw [if_pos e]; exact hsl⟩
    · rename_i e
      rw [if_neg e]
      obtain ⟨p,p',h1,h2,h3,h4⟩:=k.obj b x hb
      exact ⟨p,p',h1,(hother b x hb).trans h2,h3.mono hle,by simp only [Ren.bind]; rw [if_neg e]; exact h4⟩
  · intro b hb
    obtain ⟨h1,h2⟩:=k.dead b hb
    have:=k.dead_lt hb
    rw [hget_push,if_neg (by omega)]
    exact ⟨by simp only [Ren.bind]; rw [if_neg (by omega)]; exact h1,h2⟩
  · intro b hb _
    rw [Array.getElem?_push,if_neg (by omega)]
  · intro b hb e
    exact ⟨by simp only [Ren.bind]; rw [if_neg (by omega)]; exact e,rfl⟩
  · intro b x hb
    simp only [Ren.bind] at hb
    split at hb
    · rename_i e; cases hb; exact .inr ⟨by omega,.inl hnew⟩
    · exact .inl hb

/-- A new block on both sides. -/
theorem Sim.alloc (k:Rel P R (hget h) w) {o o':Obj} {sl:Option (Nat × Nat)} (hsl:SlackOk P sl o o') (ho:ObjR (R.bind h.size w.heap.size sl) o o') :
    Sim P R h w (R.bind h.size w.heap.size sl) (h.push o) (w.alloc o'):=by
  refine Sim.bindNew k (g:=w.heap.size) hsl (fun b e=>by have:=(k.lt e).2; omega) (World.alloc_heap_new w o') ?_ ho rfl rfl rfl (by simp) ?_ (Nat.le_refl _)
  · intro b x hb
    have:=(k.lt hb).2
    exact heap_alloc_old w o' x this
  · intro x hx _
    exact heap_alloc_old w o' x hx

/-- A block turned on both sides. -/
theorem Sim.put (k:Rel P R (hget h) w) {b g:Nat} (hb:R.map b=some g) {o o':Obj} (ho:ObjR R o o') (hs:SlackOk P (R.slack b) o o')
    (hg:w'.heap[g]?=some o') (hother:∀ x,x ≠ g→w'.heap[x]?=w.heap[x]?) (hsz:w'.heap.size=w.heap.size)
    (e1:w'.os=w.os) (e2:w'.tape=w.tape) (e3:w'.output=w.output) (hsh:R.slack b=none→sameShape (w.heap[g]?) (some o')):Sim P R h w R (h.setIfInBounds b o) w':=by
  have hlt:=(k.lt hb).1
  refine ⟨⟨k.inj,?_,?_,k.glob⟩,.refl R,by simp,?_,fun _ _ e=>⟨e,rfl⟩,e1,e2,e3,by omega,?_,fun _ _ e=>.inl e,?_⟩
  · intro x y hx
    rw [hget_set]
    split
    · rename_i e; subst e; rw [hb] at hx; cases hx; exact ⟨o,o',rfl,hg,ho,hs⟩
    · rename_i e
      obtain ⟨p,p',h1,h2,h3,h4⟩:=k.obj x y hx
      exact ⟨p,p',h1,(hother y fun e'=>e (k.inj _ _ _ hb (e' ▸ hx))).trans h2,h3,h4⟩
  · intro x hx
    obtain ⟨h1,h2⟩:=k.dead x hx
    refine ⟨h1,?_⟩
    rw [hget_set,if_neg (fun e=>by subst e; rw [hb] at h1; cases h1)]
    exact h2
  · intro x hx e
    rw [Array.getElem?_setIfInBounds,if_neg (fun e'=>by subst e'; rw [hb] at e; cases e)]
  · intro x hx e
    exact hother x fun e'=>e b (e' ▸ hb)
  · intro x hx hs
    by_cases e:x=g
    · subst e; rw [hg]; exact hsh (hs b hb)
    · rw [hother x e]; exact sameShape.refl _
end

section
variable {P : Program} {R R' : Ren} {h h' : Heap} {w w' : World}

/-- n cells from a on. -/
def loadN (h:Heap) (a:Addr) (n:Nat):Option (Array Value) :=
  match h[a.block]? with
  | some (.cells c _ _)=>if a.spot=none∧a.off + n≤c.size then some (c.extract a.off (a.off + n)) else none
  | _=>none

def splice (c:Array Value) (o:Nat):List Value→Array Value
  | []=>c
  | v :: r=>splice (c.setIfInBounds o v) (o + 1) r

theorem size_splice (vs:List Value):∀ (c:Array Value) (o:Nat),(splice c o vs).size=c.size:=by
  induction vs with
  | nil=>intro c o; rfl
  | cons v r ih=>intro c o; simp [splice,ih]

/-- The cells from a on become vs. -/
def storeN (h:Heap) (a:Addr) (vs:List Value):Option Heap :=
  match h[a.block]? with
  | some (.cells c e fr) =>
    if a.spot=none∧a.off + vs.length≤c.size∧fr.2≤fr.1∧vs.all (·.oneCell')=true then some (h.setIfInBounds a.block (.cells (splice c a.off vs) e fr)) else none
  | _=>none

theorem addr_add (a:Addr) (h:a.spot=none) (j:Nat):a.add j=⟨a.block,a.off + j,none⟩:=by
  unfold Addr.add
  split
  · rename_i e; subst e; cases a; simp_all
  · simp_all

theorem world_cell {w:World} {a:Addr} {c:Array Value} {e:TypeId} {fr:Nat × Nat} (hs:a.spot=none) (h:w.heap[a.block]?=some (.cells c e fr)) (j:Nat) :
    w.cell? (a.add j)=c[a.off + j]?:=by
  rw [addr_add a hs]
  simp [World.cell?,h]

/-- What a live or dead address leads to. -/
theorem Rel.row (k:Rel P R (hget h) w) {a a':Addr} (ha:AR R a a') {c:Array Value} {e:TypeId} {fr:Nat × Nat} (hc:h[a.block]?=some (.cells c e fr)) :
    c=#[] ∨ ∃ c' e' fr',R.map a.block=some a'.block∧a'.off=a.off∧w.heap[a'.block]?=some (.cells c' e' fr')∧c.size≤c'.size ∧
      (∀ (i:Nat) (v:Value),c[i]?=some v→∃ v',c'[i]?=some v'∧VR R v v')∧(∀ i,i < c.size→inFr fr' i=inFr fr i)∧SlackOk P (R.slack a.block) (.cells c e fr) (.cells c' e' fr'):=by
  rcases ha.2.2 with hd | ⟨hm,ho⟩
  · obtain ⟨_,h2⟩:=k.dead _ hd
    simp only [hget,hc,deadRow] at h2
    cases h2
    exact .inl rfl
  · obtain ⟨o,o',h1,h2,h3,h4⟩:=k.obj _ _ hm
    simp only [hget,hc] at h1
    cases h1
    obtain ⟨c',e',fr',e1,hs,hv,hf⟩:=h3
    exact .inr ⟨c',e',fr',hm,ho,by rw [h2,e1],hs,hv,hf,e1 ▸ h4⟩

theorem loadN_sim (k:Rel P R (hget h) w) {a a':Addr} (ha:AR R a a') {n:Nat} {cs:Array Value} (hl:loadN h a n=some cs) :
    ∃ cs',(∀ w2:World,w2.heap=w.heap→(loadCells a' n).run P w2=.ok cs' w2)∧ArrR (VR R) cs cs'∧cs.size=n:=by
  unfold loadN at hl
  split at hl
  · rename_i c e fr hc
    split at hl
    · rename_i hh
      cases hl
      rcases k.row ha hc with rfl | ⟨c',e',fr',hm,ho,hw,hs,hv,_,_⟩
      · have hn:n=0:=by have:=hh.2; simp at this; omega
        subst hn
        exact ⟨#[],fun _ _=>by simp [loadCells,loadCellsFrom],by simpa using ArrR.empty _,by simp⟩
      · refine ⟨((List.range n).map fun j=>(c'[a'.off + j]?).getD undef).toArray,?_,⟨by simp; omega,?_⟩,by simp; omega⟩
        · intro w2 hw2
          apply run_loadCells
          intro j hj
          rw [world_cell ha.2.1 (by rw [hw2]; exact hw)]
          have:a'.off + j < c'.size:=by omega
          simp [this]
        · intro i v v' h1 h2
          rw [Array.getElem?_extract] at h1
          split at h1
          · rename_i hi
            obtain ⟨u,hu,hr⟩:=hv _ _ h1
            simp only [List.getElem?_toArray,List.getElem?_map] at h2
            rw [List.getElem?_range (by omega)] at h2
            simp only [Option.map_some,ho,hu,Option.getD_some] at h2
            cases h2; exact hr
          · cases h1
    · cases hl
  · cases hl

theorem VR.oneCell {v v':Value} (h:VR R v v') (ho:v.oneCell'=true):v'.oneCell'=true:=by
  cases v
  case agg cs=>simp [Value.oneCell'] at ho
  case tuple cs=>simp [Value.oneCell'] at ho
  case pointer a=>cases a <;> simp at h <;> first | (subst h; rfl) | (obtain ⟨_,rfl,_⟩:=h; rfl)
  case slice a n c=>cases a <;> simp at h <;> first | (subst h; rfl) | (obtain ⟨_,_,rfl,_⟩:=h; rfl)
  case map r=>cases r <;> simp at h <;> first | (subst h; rfl) | (obtain ⟨_,rfl,_⟩:=h; rfl)
  case func f a b=>rw [VR_func] at h; obtain ⟨_,_,_,rfl,_⟩:=h; rfl
  case chan r=>simp at h
  case iface t u=>rw [VR_tok] at h; have:=h.2; cases v' <;> first | rfl | simp [opq] at this
  all_goals (simp at h; subst h; rfl)

theorem setCell_row {w:World} {g o:Nat} {c:Array Value} {e:TypeId} {fr:Nat × Nat} (h:w.heap[g]?=some (.cells c e fr)) (v:Value) :
    (w.setCell ⟨g,o,none⟩ v).heap[g]?=some (.cells (c.setIfInBounds o v) e fr)∧(∀ x,x ≠ g→(w.setCell ⟨g,o,none⟩ v).heap[x]?=w.heap[x]?):=by
  constructor
  · simp only [World.setCell,Array.getElem?_modify]
    simp [h]
  · intro x hx
    simp only [World.setCell,Array.getElem?_modify]
    rw [if_neg (by omega)]

theorem storeCells_run (a:Addr) (ha:a.spot=none):∀ (vs:List Value) (i:Nat) (w:World) (c:Array Value) (e:TypeId) (fr:Nat × Nat),
    w.heap[a.block]?=some (.cells c e fr)→a.off + i + vs.length≤c.size→(∀ j,a.off + i≤j→j < a.off + i + vs.length→inFr fr j=false)→(∀ v ∈ vs,v.oneCell'=true) →
    ∃ w',(storeCells a vs i).run P w=.ok () w'∧w'.heap[a.block]?=some (.cells (splice c (a.off + i) vs) e fr)∧(∀ x,x ≠ a.block→w'.heap[x]?=w.heap[x]?) ∧
      w'.heap.size=w.heap.size∧w'.os=w.os∧w'.tape=w.tape∧w'.output=w.output:=by
  intro vs
  induction vs with
  | nil=>intro i w c e fr h1 h2 h3 h4; exact ⟨w,by simp [storeCells],h1,fun _ _=>rfl,rfl,rfl,rfl,rfl⟩
  | cons v r ih =>
    intro i w c e fr h1 h2 h3 h4
    simp only [List.length_cons] at h2 h3
    have hcell:w.cell? (a.add i)=some c[a.off + i]:=by
      rw [world_cell ha h1]; simp
    have hfr:w.frozen? (a.add i)=false:=by
      rw [addr_add a ha]
      have:=h3 (a.off + i) (by omega) (by omega)
      simp only [World.frozen?,h1]
      simpa [inFr] using this
    have hrow:=setCell_row (o:=a.off + i) h1 v
    obtain ⟨w',g1,g2,g3,g4,g5,g6,g7⟩:=ih (i + 1) (w.setCell ⟨a.block,a.off + i,none⟩ v) _ e fr hrow.1 (by simp; omega) (fun j hj hj'=>h3 j (by omega) (by omega)) (fun u hu=>h4 u (by simp [hu]))
    refine ⟨w',?_,?_,fun x hx=>(g3 x hx).trans (hrow.2 x hx),by rw [g4]; simp,g5,g6,g7⟩
    · simp only [storeCells,Sem.run_bind,run_store P w _ v _ (h4 v (by simp)),hcell,hfr,Result.andThen]
      rw [addr_add a ha]
      simpa using g1
    · simp only [splice]
      rw [show a.off + i + 1=a.off + (i + 1) from by omega]
      exact g2

theorem splice_get (vs:List Value):∀ (c:Array Value) (o i:Nat),o + vs.length≤c.size →
    (splice c o vs)[i]?=if o≤i∧i < o + vs.length then vs[i - o]? else c[i]?:=by
  induction vs with
  | nil=>intro c o i h; simp [splice]; omega
  | cons v r ih =>
    intro c o i h
    simp only [splice,List.length_cons] at h ⊢
    rw [ih _ _ _ (by simp; omega)]
    by_cases h1:o + 1≤i∧i < o + 1 + r.length
    · rw [if_pos h1,if_pos (by omega)]
      rw [show i - o=(i - (o + 1)) + 1 from by omega]
      simp
    · rw [if_neg h1,Array.getElem?_setIfInBounds]
      by_cases h2:o=i
      · subst h2; simp; omega
      · rw [if_neg h2,if_neg (by omega)]

theorem storeN_sim (k:Rel P R (hget h) w) {a a':Addr} (ha:AR R a a') {vs vs':List Value} (hvs:ArrR (VR R) vs.toArray vs'.toArray) (hst:storeN h a vs=some h') :
    ∃ w',(storeCells a' vs' 0).run P w=.ok () w'∧Sim P R h w R h' w':=by
  unfold storeN at hst
  have hlen:vs'.length=vs.length:=by simpa using hvs.1
  split at hst
  · rename_i c e fr hc
    split at hst
    · rename_i hh
      obtain ⟨hsp,hsz,hfr,hone⟩:=hh
      cases hst
      have hone':∀ v ∈ vs',v.oneCell'=true:=by
        intro v' hv'
        obtain ⟨i,hi,e⟩:=List.mem_iff_getElem.1 hv'
        have hi0:i < vs.length:=by omega
        have:=hvs.2 i vs[i] v' (by simp [hi0]) (by simp [hi,e])
        exact this.oneCell (List.all_eq_true.1 hone _ (List.getElem_mem hi0))
      rcases k.row ha hc with rfl | ⟨c',e',fr',hm,ho,hw,hs,hv,hf,hsl⟩
      · have hn:vs=[]:=List.eq_nil_of_length_eq_zero (by have h0:(#[]:Array Value).size=0:=rfl; omega)
        subst hn
        have hn':vs'=[]:=List.eq_nil_of_length_eq_zero (by simpa using hlen)
        subst hn'
        refine ⟨w,by simp [storeCells],?_⟩
        have:h.setIfInBounds a.block (.cells (splice #[] a.off []) e fr)=h:=by
          apply Array.ext_getElem?
          intro i
          rw [Array.getElem?_setIfInBounds]
          split
          · rename_i e1; subst e1
            have:=(Array.getElem?_eq_some_iff.1 hc).1
            simp only [this,if_true,splice]
            exact hc.symm
          · rfl
        rw [this]
        exact .refl k
      · obtain ⟨w',g1,g2,g3,g4,g5,g6,g7⟩:=storeCells_run (P:=P) a' ha.2.1 vs' 0 w c' e' fr' hw (by omega)
          (fun j hj hj'=>by rw [hf j (by omega)]; simp [inFr]; omega) hone'
        refine ⟨w',g1,?_⟩
        refine Sim.put k hm (o':=.cells (splice c' a'.off vs') e' fr') ?_ ?_ (by simpa using g2) g3 g4 g5 g6 g7 (fun _=>by rw [hw]; exact ⟨_,rfl,by simp [size_splice]⟩)
        · refine ⟨_,_,_,rfl,by simp [size_splice,hs],?_,fun i hi=>hf i (by simpa [size_splice] using hi)⟩
          intro i v hi
          rw [splice_get _ _ _ _ hsz] at hi
          rw [splice_get _ _ _ _ (by omega),ho,hlen]
          split at hi
          · rename_i hb
            rw [if_pos hb]
            have hlt:i - a.off < vs'.length:=by omega
            refine ⟨vs'[i - a.off],by simp [hlt],?_⟩
            exact hvs.2 (i - a.off) v _ (by simpa using hi) (by simp [hlt])
          · rename_i hb
            rw [if_neg hb]
            exact hv i v hi
        · refine ⟨by simpa [isSlack] using hsl.1,fun z r hzr=>?_⟩
          obtain ⟨⟨c0,e0,q1,q2⟩,c1,e1,f1,q3,q4,q5⟩:=hsl.2 z r hzr
          cases q1; cases q3
          exact ⟨⟨_,_,rfl,q2⟩,_,_,_,rfl,by rw [size_splice]; exact q4,q5⟩
    · cases hst
  · cases hst

/-! ### A row that grows -/

def Ren.kill (R:Ren) (A:Nat):Ren:={ map:=fun x=>if x=A then none else R.map x,slack:=R.slack,dead:=fun x=>decide (x=A) || R.dead x,ghost:=R.ghost }

theorem Ren.le_kill (R:Ren) (A:Nat):R.le (R.kill A) :=
  ⟨fun x g e=>by
    by_cases hx:x=A
    · exact .inr (by simp [Ren.kill,hx])
    · exact .inl (by simp [Ren.kill,hx,e]),
   fun x e=>by simp [Ren.kill,e],fun x g e=>.inl rfl,rfl⟩

theorem Rel.kill (k:Rel P R (hget h) w) {A:Nat} (hA:A < h.size):Rel P (R.kill A) (hget (h.setIfInBounds A deadRow)) w:=by
  refine ⟨?_,?_,?_,k.glob_le (Ren.le_kill R A)⟩
  · intro b b' g hb hb'
    simp only [Ren.kill] at hb hb'
    split at hb; · cases hb
    split at hb'; · cases hb'
    exact k.inj _ _ _ hb hb'
  · intro b g hb
    simp only [Ren.kill] at hb
    split at hb; · cases hb
    rename_i hne
    obtain ⟨o,o',h1,h2,h3,h4⟩:=k.obj b g hb
    exact ⟨o,o',by rw [hget_set,if_neg (by omega)]; exact h1,h2,h3.mono (Ren.le_kill R A),h4⟩
  · intro b hb
    by_cases hx:b=A
    · subst hx
      exact ⟨by simp [Ren.kill],by rw [hget_set,if_pos rfl,if_pos hA]⟩
    · obtain ⟨h1,h2⟩:=k.dead b (by simpa [Ren.kill,hx] using hb)
      exact ⟨by simp [Ren.kill,hx,h1],by rw [hget_set,if_neg (by omega)]; exact h2⟩

/-- The row A is let go; a new canonical row stands for A's block in the world, or for a new one. -/
theorem Sim.regrow (k:Rel P R (hget h) w) {A g:Nat} (hA:R.map A=some g) (hslA:R.slack A ≠ none) {o o':Obj} {g':Nat} {sl:Option (Nat × Nat)} (hsl:SlackOk P sl o o') (hg':g'=g ∨ g'=w.heap.size) (hg:w'.heap[g']?=some o')
    (hother:∀ x,x ≠ g'→x < w.heap.size→w'.heap[x]?=w.heap[x]?) (ho:ObjR ((R.kill A).bind h.size g' sl) o o')
    (e1:w'.os=w.os) (e2:w'.tape=w.tape) (e3:w'.output=w.output) (hsz:w.heap.size≤w'.heap.size) :
    Sim P R h w ((R.kill A).bind h.size g' sl) ((h.setIfInBounds A deadRow).push o) w':=by
  have hAlt:=(k.lt hA).1
  have kk:=k.kill hAlt
  have hsz':(h.setIfInBounds A deadRow).size=h.size:=by simp
  have hle:(R.kill A).le ((R.kill A).bind h.size g' sl):=by
    have:=Ren.le_bind kk g' sl; rwa [hsz'] at this
  have hfree:∀ b,(R.kill A).map b ≠ some g':=by
    intro b hb
    have hb0:R.map b=some g'∧b ≠ A:=by
      simp only [Ren.kill] at hb
      split at hb; · cases hb
      exact ⟨hb,by assumption⟩
    rcases hg' with rfl | rfl
    · exact hb0.2 (k.inj _ _ _ hb0.1 hA)
    · have:=(k.lt hb0.1).2; omega
  refine ⟨⟨?_,?_,?_,k.glob_le ((Ren.le_kill R A).trans hle)⟩,(Ren.le_kill R A).trans hle,by simp,?_,?_,e1,e2,e3,hsz,?_,?_,?_⟩
  · intro b b' x hb hb'
    simp only [Ren.bind] at hb hb'
    split at hb <;> split at hb'
    · omega
    · cases hb; exact absurd hb' (hfree _)
    · cases hb'; exact absurd hb (hfree _)
    · exact kk.inj _ _ _ hb hb'
  · intro b x hb
    simp only [Ren.bind] at hb
    rw [hget_push,hsz']
    split at hb
    · rename_i e; cases hb; rw [if_pos e]; exact ⟨o,o',rfl,hg,ho,by simp only [Ren.bind]; rw [if_pos e]; exact hsl⟩
    · rename_i e
      rw [if_neg e]
      obtain ⟨p,p',h1,h2,h3,h4⟩:=kk.obj b x hb
      exact ⟨p,p',h1,(hother x (fun e'=>hfree b (e' ▸ hb)) (kk.lt hb).2).trans h2,h3.mono hle,by simp only [Ren.bind]; rw [if_neg e]; exact h4⟩
  · intro b hb
    obtain ⟨h1,h2⟩:=kk.dead b hb
    have:=kk.dead_lt hb
    rw [hsz'] at this
    rw [hget_push,hsz',if_neg (by omega)]
    exact ⟨by simp only [Ren.bind]; rw [if_neg (by omega)]; exact h1,h2⟩
  · intro b hb e
    rw [Array.getElem?_push,hsz',if_neg (by omega),Array.getElem?_setIfInBounds,if_neg (fun e'=>by subst e'; rw [hA] at e; cases e)]
  · intro b hb e
    have hbA:b ≠ A:=fun e'=>by subst e'; rw [hA] at e; cases e
    refine ⟨?_,?_⟩
    · simp only [Ren.bind,Ren.kill]; rw [if_neg (by omega),if_neg hbA]; exact e
    · simp [Ren.bind,Ren.kill,hbA]
  · intro x hx e
    exact hother x (fun e'=>by
      rcases hg' with rfl | rfl
      · exact e A (e' ▸ hA)
      · omega) hx
  · intro b x hb
    simp only [Ren.bind,Ren.kill] at hb
    split at hb
    · rename_i e; cases hb
      refine .inr ⟨by omega,?_⟩
      rcases hg' with rfl | rfl
      · exact .inr ⟨A,hA,hslA⟩
      · exact .inl (Nat.le_refl _)
    · split at hb; · cases hb
      exact .inl hb
  · intro x hx hs
    by_cases e:x=g'
    · subst e
      rcases hg' with e | e
      · exact absurd (hs A (e ▸ hA)) hslA
      · omega
    · rw [hother x e hx]; exact sameShape.refl _
end

section defs
variable (P : Program)

/-- A value of one cell in which no address stands. -/
def flatC:Value→Bool
  | .bool _ | .int .. | .float .. | .complex .. | .string _ | .pointer none | .slice none _ _ | .map none | .nilFunc | .nilIface=>true
  | .func (.func _) f c=>f.isEmpty && c.isEmpty
  | _=>false
def flatV:Value→Bool
  | .agg cs=>cs.all flatC
  | v=>flatC v

def zeroA (t:TypeId):Option Value :=
  match P.info? t with
  | some i=>match i.zero with
    | some z=>if flatV z then some z else none
    | none=>none
  | none=>none

def isAggA (t:TypeId):Option Bool :=
  match P.underlying t with
  | some (.struct _) | some (.array _ _)=>some true
  | some _=>some false
  | none=>none

def partA (t:TypeId) (cs:Array Value) (off:Nat):Option Value :=
  match isAggA P t with
  | some true=>match P.info? t with
    | some i=>some (.agg (cs.extract off (off + i.size)))
    | none=>none
  | some false=>cs[off]?
  | none=>none

def eqFieldsA (eq:TypeId→Value→Value→Option Bool) (xs ys:Array Value):List Field→Option Bool
  | []=>some true
  | f :: fs =>
    if f.name ≠ "_" then
      match partA P f.type xs f.offset,partA P f.type ys f.offset with
      | some a,some b=>match eq f.type a b with
        | some true=>eqFieldsA eq xs ys fs
        | some false=>some false
        | none=>none
      | _,_=>none
    else eqFieldsA eq xs ys fs

/-- x == y, of type t. -/
def eqA:Nat→TypeId→Value→Value→Option Bool
  | 0,_,_,_=>none
  | d + 1,t,x,y =>
    match P.underlying t,x,y with
    | some .bool,.bool a,.bool b=>some (a == b)
    | some (.int _),.int k a,.int k' b=>if k=k' then some (a == b) else none
    | some .string,.string a,.string b=>some (a == b)
    | some (.pointer _),.pointer none,.pointer b=>some b.isNone
    | some (.pointer _),.pointer (some _),.pointer none=>some false
    | some (.slice _),.slice none _ _,.slice b _ _=>some b.isNone
    | some (.slice _),.slice (some _) _ _,.slice none _ _=>some false
    | some (.map _ _),.map none,.map b=>some b.isNone
    | some (.map _ _),.map (some _),.map none=>some false
    | some (.func _ _ _),.nilFunc,.nilFunc=>some true
    | some (.func _ _ _),.nilFunc,.func _ _ _=>some false
    | some (.func _ _ _),.func _ _ _,.nilFunc=>some false
    | some (.struct fields),.agg xs,.agg ys=>if P.stoodInHeld t then none else eqFieldsA P (eqA d) xs ys fields.toList
    | _,_,_=>none

def intBinA (op:BinOp) (k:IntKind) (a b:Int):Option Value :=
  match op with
  | .add=>some (.int k (k.wrap (a + b)))
  | .sub=>some (.int k (k.wrap (a - b)))
  | .mul=>some (.int k (k.wrap (a * b)))
  | .quo=>if b=0 then none else some (.int k (k.wrap (a.tdiv b)))
  | .rem=>if b=0 then none else some (.int k (a.tmod b))
  | .and=>some (.int k (k.wrap (BitVec.ofInt k.bits a &&& BitVec.ofInt k.bits b).toNat))
  | .or=>some (.int k (k.wrap (BitVec.ofInt k.bits a ||| BitVec.ofInt k.bits b).toNat))
  | .xor=>some (.int k (k.wrap (BitVec.ofInt k.bits a ^^^ BitVec.ofInt k.bits b).toNat))
  | .andNot=>some (.int k (k.wrap (BitVec.ofInt k.bits a &&& ~~~BitVec.ofInt k.bits b).toNat))
  | .eql=>some (.bool (a == b))
  | .neq=>some (.bool (a != b))
  | .lss=>some (.bool (decide (a < b)))
  | .leq=>some (.bool (decide (a≤b)))
  | .gtr=>some (.bool (decide (a > b)))
  | .geq=>some (.bool (decide (a ≥ b)))
  | _=>none

def shiftA (op:BinOp) (k:IntKind) (a b:Int):Option Value :=
  if b < 0 then none else
  match op with
  | .shl=>some (.int k (k.wrap (a * 2 ^ (min b.toNat k.bits))))
  | .shr=>some (.int k (a.fdiv (2 ^ (min b.toNat k.bits))))
  | _=>none

def strBinA (op:BinOp) (x y:ByteArray):Option Value :=
  match op with
  | .add=>if ((x.size + y.size:Nat):Int) > IntKind.i64.max then none else some (.string (x++y))
  | .eql=>some (.bool (x.toList == y.toList))
  | .neq=>some (.bool !(x.toList == y.toList))
  | .lss=>some (.bool (Op.bytesLess x.toList y.toList))
  | .leq=>some (.bool (Op.bytesLess x.toList y.toList || x.toList == y.toList))
  | .gtr=>some (.bool !(Op.bytesLess x.toList y.toList || x.toList == y.toList))
  | .geq=>some (.bool !Op.bytesLess x.toList y.toList)
  | _=>none

def eqGuardA (t:TypeId) (x y:Value):Bool :=
  match x,y with
  | .agg _,.agg _=>!P.eqGuardType P.depth t
  | .nilIface,.nilIface=>false
  | _,_=>true

/-- Not a number and not a string. -/
def eqKind:Value→Bool
  | .int .. | .float .. | .complex .. | .string _ | .iface ..=>false
  | _=>true

def binA (op:BinOp) (t:TypeId) (x y:Value):Option Value :=
  match x,y with
  | .int k a,.int k' b=>if op=.shl ∨ op=.shr then shiftA op k a b else if k=k' then intBinA op k a b else none
  | .string a,.string b=>strBinA op a b
  | x,y =>
    match op with
    | .eql=>if eqKind x=true∧eqGuardA P t x y=true then (eqA P 8 t x y).map .bool else none
    | .neq=>if eqKind x=true∧eqGuardA P t x y=true then (eqA P 8 t x y).map fun b=>.bool (!b) else none
    | _=>none

def unA (op:UnOp) (x:Value):Option Value :=
  match op,x with
  | .neg,.int k n=>some (.int k (k.wrap (0 - n)))
  | .xor,.int k n=>some (.int k (k.wrap (BitVec.ofInt k.bits (if k.signed then -1 else k.max) ^^^ BitVec.ofInt k.bits n).toNat))
  | .not,.bool b=>some (.bool !b)
  | _,_=>none

def convA (src dst:TypeId) (x:Value):Option Value :=
  match P.underlying src,P.underlying dst,x with
  | some _,some (.int k),.int _ n=>some (.int k (k.wrap n))
  | some _,some .string,.string s=>some (.string s)
  | _,_,_=>none

def max2A:Value→Value→Option Value
  | .int k a,.int _ b=>some (.int k (if b > a then b else a))
  | .string a,.string b=>some (.string (if !Op.bytesLess a.toList b.toList then a else b))
  | _,_=>none
def min2A:Value→Value→Option Value
  | .int k a,.int _ b=>some (.int k (if b < a then b else a))
  | .string a,.string b=>some (.string (if Op.bytesLess a.toList b.toList || a.toList == b.toList then a else b))
  | _,_=>none
def maxA:List Value→Option Value
  | []=>none
  | x :: rest=>rest.foldlM max2A x
def minA:List Value→Option Value
  | []=>none
  | x :: rest=>rest.foldlM min2A x
end defs

section sims
variable {P : Program} {R : Ren} {w : World}

theorem flatC_VR {v:Value} (h:flatC v=true):VR R v v:=by
  unfold flatC at h
  split at h
  case h_11 f first cap =>
    simp only [Bool.and_eq_true,Array.isEmpty_iff] at h
    obtain ⟨rfl,rfl⟩:=h
    rw [VR_func]
    exact ⟨_,_,_,rfl,rfl,ArrR.empty _,ArrR.empty _⟩
  all_goals simp_all

theorem flatC_eq {v v':Value} (h:flatC v=true) (k:VR R v v'):v'=v:=by
  unfold flatC at h
  split at h
  case h_11 f first cap =>
    simp only [Bool.and_eq_true,Array.isEmpty_iff] at h
    obtain ⟨rfl,rfl⟩:=h
    rw [VR_func] at k
    obtain ⟨f',first',cap',rfl,hf,h1,h2⟩:=k
    have e1:first'=#[]:=by have:=h1.1; simpa using this
    have e2:cap'=#[]:=by have:=h2.1; simpa using this
    simp only [FnR] at hf
    rw [e1,e2,hf]
  all_goals simp_all

theorem flatV_VR {v:Value} (h:flatV v=true):VR R v v:=by
  unfold flatV at h
  split at h
  · rename_i cs
    rw [VR_agg]
    refine ⟨cs,rfl,rfl,fun i u u' hu hu'=>?_⟩
    rw [hu] at hu'; cases hu'
    rw [Array.all_eq_true] at h
    obtain ⟨hi,e⟩:=Array.getElem?_eq_some_iff.1 hu
    have:=h i hi
    rw [e] at this
    exact flatC_VR this
  · exact flatC_VR h

theorem zeroA_run {t:TypeId} {z:Value} (h:zeroA P t=some z):(zeroValue t).run P w=.ok z w∧VR R z z∧∃ i,P.info? t=some i∧i.zero=some z:=by
  unfold zeroA at h
  split at h
  · rename_i i hi
    split at h
    · rename_i z0 hz
      split at h
      · rename_i hf
        cases h
        exact ⟨by simp [zeroValue,typeInfo,hi,hz],flatV_VR hf,i,hi,hz⟩
      · cases h
    · cases h
  · cases h

theorem isAggA_run {t:TypeId} {b:Bool} (h:isAggA P t=some b):(isAgg t).run P w=.ok b w:=by
  unfold isAggA at h
  split at h
  · rename_i fs hu; cases h; simp [isAgg,run_underlying hu]
  · rename_i n e hu; cases h; simp [isAgg,run_underlying hu]
  · rename_i d h1 h2 hu; cases h
    simp only [isAgg,Sem.run_bind,run_underlying hu,Result.andThen_ok]
    cases d <;> first | rfl | exact absurd rfl (h1 _) | exact absurd rfl (h2 _ _)
  · cases h

theorem partA_run {t:TypeId} {cs:Array Value} {off:Nat} {v:Value} (h:partA P t cs off=some v):(part t cs off).run P w=.ok v w:=by
  unfold partA at h
  split at h
  · rename_i ha
    split at h
    · rename_i i hi
      cases h
      simp [part,isAggA_run ha,sizeOf,typeInfo,hi]
    · cases h
  · rename_i ha
    simp [part,isAggA_run ha,h]
  · cases h

theorem partA_rel {t:TypeId} {cs cs':Array Value} {off:Nat} {v:Value} (hr:ArrR (VR R) cs cs') (h:partA P t cs off=some v):∃ v',partA P t cs' off=some v'∧VR R v v':=by
  unfold partA at h ⊢
  split at h
  · split at h
    · cases h; exact ⟨_,rfl,by rw [VR_agg]; exact ⟨_,rfl,hr.extract _ _⟩⟩
    · cases h
  · obtain ⟨v',h1,h2⟩:=hr.get h
    exact ⟨v',h1,h2⟩
  · cases h

theorem eqFieldsA_sim {eq:TypeId→Value→Value→Option Bool} {D:Nat}
    (ih:∀ t x y b x' y' w,eq t x y=some b→VR R x x'→VR R y y'→(Op.equalIn D t x' y').run P w=.ok b w) {xs ys xs' ys':Array Value} (hx:ArrR (VR R) xs xs') (hy:ArrR (VR R) ys ys') :
    ∀ (fs:List Field) (b:Bool),eqFieldsA P eq xs ys fs=some b→(Op.eqFields D xs' ys' fs).run P w=.ok b w
  | [],b,h=>by simp [eqFieldsA] at h; simp [Op.eqFields,← h]
  | f :: fs,b,h=>by
    unfold eqFieldsA at h
    simp only [Op.eqFields,Sem.run_ite]
    split at h
    · rename_i hn
      rw [if_pos hn]
      split at h
      · rename_i a c ha hc
        obtain ⟨a',ha',ra⟩:=partA_rel hx ha
        obtain ⟨c',hc',rc⟩:=partA_rel hy hc
        simp only [Sem.run_bind,partA_run ha',partA_run hc',Result.andThen_ok]
        split at h
        · rename_i he
          rw [ih _ _ _ _ _ _ _ he ra rc]
          simpa using eqFieldsA_sim ih hx hy fs b h
        · rename_i he
          cases h
          rw [ih _ _ _ _ _ _ _ he ra rc]
          simp
        · cases h
      · cases h
    · rename_i hn
      rw [if_neg hn]
      exact eqFieldsA_sim ih hx hy fs b h

theorem eqA_sim:∀ (d D:Nat) (t:TypeId) (x y:Value) (b:Bool) (x' y':Value) (w:World),d≤D→eqA P d t x y=some b→VR R x x'→VR R y y'→(Op.equalIn D t x' y').run P w=.ok b w:=by
  intro d
  induction d with
  | zero=>intro D t x y b x' y' w _ h; simp [eqA] at h
  | succ d ih =>
    intro D t x y b x' y' w hD h rx ry
    obtain ⟨D,rfl⟩:∃ D',D=D' + 1:=⟨D - 1,by omega⟩
    unfold eqA at h
    split at h
    · rename_i hu; cases h; simp at rx ry; subst rx ry; simp [Op.equalIn,run_underlying hu]
    · rename_i hu
      split at h
      · rename_i e; cases h; simp at rx ry; subst rx ry e; simp [Op.equalIn,run_underlying hu]
      · cases h
    · rename_i hu; cases h; simp at rx ry; subst rx ry; simp [Op.equalIn,run_underlying hu]
    · rename_i p hu; cases h; simp at rx; subst rx
      cases p <;> simp at ry
      · subst ry; simp [Op.equalIn,run_underlying hu]
      · obtain ⟨_,rfl,_⟩:=ry; simp [Op.equalIn,run_underlying hu]
    · rename_i hu; cases h; simp at rx ry; obtain ⟨_,rfl,_⟩:=rx; subst ry; simp [Op.equalIn,run_underlying hu]
    · rename_i p _ _ hu; cases h; simp at rx; subst rx
      cases p <;> simp at ry
      · subst ry; simp [Op.equalIn,run_underlying hu]
      · obtain ⟨_,_,rfl,_⟩:=ry; simp [Op.equalIn,run_underlying hu]
    · rename_i hu; cases h; simp at rx ry; obtain ⟨_,_,rfl,_⟩:=rx; subst ry; simp [Op.equalIn,run_underlying hu]
    · rename_i p hu; cases h; simp at rx; subst rx
      cases p <;> simp at ry
      · subst ry; simp [Op.equalIn,run_underlying hu]
      · obtain ⟨_,rfl,_⟩:=ry; simp [Op.equalIn,run_underlying hu]
    · rename_i hu; cases h; simp at rx ry; obtain ⟨_,rfl,_⟩:=rx; subst ry; simp [Op.equalIn,run_underlying hu]
    · rename_i hu; cases h; simp at rx ry; subst rx ry; simp [Op.equalIn,run_underlying hu]
    · rename_i hu; cases h; rw [VR_nilfunc] at rx; rw [VR_func] at ry; subst rx; obtain ⟨_,_,_,rfl,_⟩:=ry; simp [Op.equalIn,run_underlying hu]
    · rename_i hu; cases h; rw [VR_nilfunc] at ry; rw [VR_func] at rx; subst ry; obtain ⟨_,_,_,rfl,_⟩:=rx; simp [Op.equalIn,run_underlying hu]
    · rename_i fields xs ys hu
      split at h
      · cases h
      · rename_i hst
        rw [VR_agg] at rx ry
        obtain ⟨xs',rfl,hx⟩:=rx
        obtain ⟨ys',rfl,hy⟩:=ry
        have hf:P.fieldsOf t=fields:=by simp [Program.fieldsOf,hu]
        rw [run_equalIn_struct w D t xs' ys' (by rw [hf]; exact hu) (by simpa using hst),hf]
        exact eqFieldsA_sim (fun t x y b x' y' w h1 h2 h3=>ih D t x y b x' y' w (by omega) h1 h2 h3) hx hy _ b h
    · cases h
end sims

section sims
variable {P : Program} {R : Ren} {w : World}

theorem intBinA_run {op:BinOp} {t:TypeId} {k:IntKind} {a b:Int} {v:Value} (hop:¬(op=.shl ∨ op=.shr)) (h:intBinA op k a b=some v) :
    (binOp op t (.int k a) (.int k b)).run P w=.ok v w∧VR R v v:=by
  cases op <;> simp [intBinA] at h hop <;> first
    | (subst h; exact ⟨by simp [binOp,Op.intArith,Op.intBits,Op.intCmp],by simp⟩)
    | (obtain ⟨h1,h2⟩:=h; subst h2; exact ⟨by simp [binOp,Op.intDiv,h1],by simp⟩)

theorem shiftA_run {op:BinOp} {t:TypeId} {k k':IntKind} {a b:Int} {v:Value} (hop:op=.shl ∨ op=.shr) (h:shiftA op k a b=some v) :
    (binOp op t (.int k a) (.int k' b)).run P w=.ok v w∧VR R v v:=by
  unfold shiftA at h
  split at h
  · cases h
  · rename_i hb
    rcases hop with rfl | rfl <;> simp at h <;> subst h <;> exact ⟨by simp [binOp,Op.shift,hb],by simp⟩

theorem strBinA_run {op:BinOp} {t:TypeId} {a b:ByteArray} {v:Value} (h:strBinA op a b=some v) :
    (binOp op t (.string a) (.string b)).run P w=.ok v w∧VR R v v:=by
  cases op <;> simp [strBinA] at h <;> first
    | (subst h; exact ⟨by simp [binOp,Op.stringOp],by simp⟩)
    | (obtain ⟨h1,h2⟩:=h; subst h2; refine ⟨?_,by simp⟩; simp only [binOp,Op.stringOp]; rw [if_neg (by simpa using h1)]; rfl)

theorem VR.agg_inv {x:Value} {cs:Array Value} (h:VR R x (.agg cs)):∃ c,x=.agg c:=by
  cases x
  case agg c=>exact ⟨c,rfl⟩
  case pointer a=>cases a <;> simp at h
  case slice a n c=>cases a <;> simp at h
  case map r=>cases r <;> simp at h
  case func f a b=>rw [VR_func] at h; obtain ⟨_,_,_,e,_⟩:=h; cases e
  case iface t u=>rw [VR_tok] at h; have:=h.2; simp [opq] at this
  all_goals simp at h
theorem VR.niliface_inv {x:Value} (h:VR R x .nilIface):x=.nilIface:=by
  cases x
  case nilIface=>rfl
  case pointer a=>cases a <;> simp at h
  case slice a n c=>cases a <;> simp at h
  case map r=>cases r <;> simp at h
  case func f a b=>rw [VR_func] at h; obtain ⟨_,_,_,e,_⟩:=h; cases e
  case iface t u=>rw [VR_tok] at h; have:=h.2; simp [opq] at this
  all_goals simp at h

theorem eqGuard_run {op:BinOp} {t:TypeId} {ox oy:Operand} {x y x' y':Value} (h:eqGuardA P t x y=true) (hx:VR R x x') (hy:VR R y y') :
    (eqGuard op t ox oy x' y').run P w=.ok () w:=by
  unfold eqGuardA at h
  split at h
  · rw [VR_agg] at hx hy
    obtain ⟨_,rfl,_⟩:=hx
    obtain ⟨_,rfl,_⟩:=hy
    exact run_eqGuard_agg w op t ox oy _ _ (by simpa using h)
  · cases h
  · rename_i h1 h2
    have g1:∀ c d,x'=.agg c→y'=.agg d→False:=by
      rintro c d rfl rfl
      obtain ⟨c0,rfl⟩:=hx.agg_inv
      obtain ⟨d0,rfl⟩:=hy.agg_inv
      exact h1 _ _ rfl rfl
    have g2:x'=.nilIface→y'=.nilIface→False:=by
      rintro rfl rfl
      exact h2 hx.niliface_inv hy.niliface_inv
    cases op <;> simp only [eqGuard,Bool.not_true,Bool.not_false,Bool.false_eq_true,if_false,if_true] <;> first
      | rfl
      | (split
         · exact (g2 rfl rfl).elim
         · exact (g1 _ _ rfl rfl).elim
         · rfl)

theorem VR.eqKind {x x':Value} (h:VR R x x') (hk:eqKind x=true):eqKind x'=true:=by
  cases x
  case pointer a=>cases a <;> simp at h <;> first | (subst h; rfl) | (obtain ⟨_,rfl,_⟩:=h; rfl)
  case slice a n c=>cases a <;> simp at h <;> first | (subst h; rfl) | (obtain ⟨_,_,rfl,_⟩:=h; rfl)
  case map r=>cases r <;> simp at h <;> first | (subst h; rfl) | (obtain ⟨_,rfl,_⟩:=h; rfl)
  case func f a b=>rw [VR_func] at h; obtain ⟨_,_,_,rfl,_⟩:=h; rfl
  case agg cs=>rw [VR_agg] at h; obtain ⟨_,rfl,_⟩:=h; rfl
  case tuple cs=>rw [VR_tuple] at h; obtain ⟨_,rfl,_⟩:=h; rfl
  case bool b=>simp at h; subst h; rfl
  case nilFunc=>simp at h; subst h; rfl
  case nilIface=>simp at h; subst h; rfl
  case chan c=>simp at h
  case iface t u=>simp [Go.AM.eqKind] at hk
  all_goals simp [Go.AM.eqKind] at hk

theorem binOp_eql {t:TypeId} {x y:Value} (h:Go.AM.eqKind x=true):binOp .eql t x y=(do pure (.bool (← Op.equal t x y))):=by
  cases x <;> simp [Go.AM.eqKind] at h <;> cases y <;> rfl
theorem binOp_neq {t:TypeId} {x y:Value} (h:Go.AM.eqKind x=true):binOp .neq t x y=(do pure (.bool (!(← Op.equal t x y)))):=by
  cases x <;> simp [Go.AM.eqKind] at h <;> cases y <;> rfl

theorem intGuard_run {op:BinOp} {t:TypeId} {ox oy:Operand} {k k':IntKind} {a b:Int}:(eqGuard op t ox oy (.int k a) (.int k' b)).run P w=.ok () w:=by
  cases op <;> simp [eqGuard]
theorem strGuard_run {op:BinOp} {t:TypeId} {ox oy:Operand} {a b:ByteArray}:(eqGuard op t ox oy (.string a) (.string b)).run P w=.ok () w:=by
  cases op <;> simp [eqGuard]
theorem binA_sim {op:BinOp} {t:TypeId} {ox oy:Operand} {x y x' y' v:Value} (h:binA P op t x y=some v) (hx:VR R x x') (hy:VR R y y') :
    (do eqGuard op t ox oy x' y'; binOp op t x' y').run P w=.ok v w∧VR R v v:=by
  unfold binA at h
  split at h
  · rename_i k a k' b
    simp at hx hy; subst hx hy
    simp only [Sem.run_bind,intGuard_run,Result.andThen_ok]
    split at h
    · rename_i hop; exact shiftA_run hop h
    · rename_i hop
      split at h
      · rename_i e; subst e; exact intBinA_run hop h
      · cases h
  · simp at hx hy; subst hx hy
    simp only [Sem.run_bind,strGuard_run,Result.andThen_ok]
    exact strBinA_run h
  · rename_i hn1 hn2
    have key:∀ b,eqA P 8 t x y=some b→(Op.equal t x' y').run P w=.ok b w:=fun b hb=>eqA_sim 8 10000 t x y b x' y' w (by omega) hb hx hy
    split at h
    · split at h
      · rename_i hg
        simp only [Option.map_eq_some_iff] at h
        obtain ⟨b,hb,rfl⟩:=h
        refine ⟨?_,by simp⟩
        simp only [Sem.run_bind,eqGuard_run hg.2 hx hy,Result.andThen_ok,binOp_eql (hx.eqKind hg.1),key b hb,Sem.run_pure]
      · cases h
    · split at h
      · rename_i hg
        simp only [Option.map_eq_some_iff] at h
        obtain ⟨b,hb,rfl⟩:=h
        refine ⟨?_,by simp⟩
        simp only [Sem.run_bind,eqGuard_run hg.2 hx hy,Result.andThen_ok,binOp_neq (hx.eqKind hg.1),key b hb,Sem.run_pure]
      · cases h
    · cases h

theorem unA_sim {op:UnOp} {x x' v:Value} (h:unA op x=some v) (hx:VR R x x'):(Op.unary op x').run P w=.ok v w∧VR R v v:=by
  unfold unA at h
  split at h
  · cases h; simp at hx; subst hx; exact ⟨by simp [Op.unary,Op.intArith],by simp⟩
  · cases h; simp at hx; subst hx; exact ⟨by simp [Op.unary,Op.intBits],by simp⟩
  · cases h; simp at hx; subst hx; exact ⟨by simp [Op.unary],by simp⟩
  · cases h

theorem convA_sim {src dst:TypeId} {x x' v:Value} (h:convA P src dst x=some v) (hx:VR R x x'):(convert src dst x').run P w=.ok v w∧VR R v v:=by
  unfold convA at h
  split at h
  · rename_i h1 h2; cases h; simp at hx; subst hx
    refine ⟨?_,by simp⟩
    simp only [convert,Sem.run_bind,run_underlying h1,run_underlying h2,Result.andThen_ok]
    rfl
  · rename_i h1 h2; cases h; simp at hx; subst hx
    refine ⟨?_,by simp⟩
    simp only [convert,Sem.run_bind,run_underlying h1,run_underlying h2,Result.andThen_ok]
    rfl
  · cases h
end sims

section
variable {P : Program} {R : Ren} {h h' : Heap} {w : World}

/-- What a step of the machine does, on both sides. -/
def StepSim (P:Program) (R:Ren) (h:Heap) (w:World) (s:Sem Value) (v:Value) (h':Heap):Prop :=
  ∃ R' w' v',s.run P w=.ok v' w'∧VR R' v v'∧Sim P R h w R' h' w'

theorem StepSim.pure (k:Rel P R (hget h) w) {s:Sem Value} {v v':Value} (hr:s.run P w=.ok v' w) (hv:VR R v v'):StepSim P R h w s v h :=
  ⟨R,w,v',hr,hv,.refl k⟩

/-! ### loads and stores -/
def loadT (P:Program) (h:Heap) (t:TypeId) (p:Value):Option Value :=
  match p with
  | .pointer (some a)=>match isAggA P t with
    | some true=>match P.info? t with
      | some i=>(loadN h a i.size).map .agg
      | none=>none
    | some false=>(loadN h a 1).bind fun c=>c[0]?
    | none=>none
  | _=>none

theorem load1_sim (k:Rel P R (hget h) w) {a a':Addr} (ha:AR R a a') {c:Array Value} {v:Value} (hl:loadN h a 1=some c) (hv:c[0]?=some v) :
    ∃ v',(load a').run P w=.ok v' w∧VR R v v':=by
  obtain ⟨cs',h1,h2,h3⟩:=loadN_sim (P:=P) k ha hl
  replace h1:=h1 w rfl
  obtain ⟨v',g1,g2⟩:=h2.get hv
  refine ⟨v',?_,g2⟩
  have e:(loadCells a' 1)=(do let v ← load (a'.add 0); pure #[v]):=by simp [loadCells,loadCellsFrom]
  rw [e] at h1
  have e0:a'.add 0=a':=by simp [Addr.add]
  rw [e0,Sem.run_bind] at h1
  cases hr:(load a').run P w with
  | ok u w1 =>
    rw [hr] at h1
    simp only [Result.andThen_ok,Sem.run_pure] at h1
    cases h1
    simp at g1
    rw [g1]
  | halt x w1=>rw [hr] at h1; cases h1

theorem loadT_val (k:Rel P R (hget h) w) {t:TypeId} {p p' v:Value} (hp:VR R p p') (hl:loadT P h t p=some v) :
    ∃ v' a',p'=.pointer (some a')∧(loadVar t a').run P w=.ok v' w∧VR R v v':=by
  unfold loadT at hl
  split at hl
  · rename_i a
    rw [VR_ptr] at hp
    obtain ⟨a',rfl,ha⟩:=hp
    split at hl
    · rename_i hg
      split at hl
      · rename_i i hi
        simp only [Option.map_eq_some_iff] at hl
        obtain ⟨cs,hcs,rfl⟩:=hl
        obtain ⟨cs',h1,h2,h3⟩:=loadN_sim (P:=P) k ha hcs
        replace h1:=h1 w rfl
        refine ⟨.agg cs',a',rfl,?_,by rw [VR_agg]; exact ⟨_,rfl,h2⟩⟩
        simp [loadVar,isAggA_run hg,sizeOf,typeInfo,hi,h1]
      · cases hl
    · rename_i hg
      simp only [Option.bind_eq_some_iff] at hl
      obtain ⟨c,hc,hv⟩:=hl
      obtain ⟨v',h1,h2⟩:=load1_sim (P:=P) k ha hc hv
      refine ⟨v',a',rfl,?_,h2⟩
      simp only [loadVar,Sem.run_bind,Sem.run_pure,Result.andThen_ok,isAggA_run hg,Bool.false_eq_true,if_false,h1]
    · cases hl
  · cases hl

theorem loadT_sim (k:Rel P R (hget h) w) {t:TypeId} {p p' v:Value} (hp:VR R p p') (hl:loadT P h t p=some v):StepSim P R h w (Instr.loadAt t p') v h:=by
  obtain ⟨v',a',rfl,h1,h2⟩:=loadT_val k hp hl
  exact .pure k (by simp [Instr.loadAt,Instr.sureAddr,h1]) h2

def storeT (P:Program) (h:Heap) (t:TypeId) (p v:Value):Option Heap :=
  match p with
  | .pointer (some a)=>match P.info? t with
    | some i=>if v.cells.size=i.size then storeN h a v.cells.toList else none
    | none=>none
  | _=>none

theorem storeT_sim (k:Rel P R (hget h) w) {t:TypeId} {p p' v v':Value} (hp:VR R p p') (hv:VR R v v') (hst:storeT P h t p v=some h') :
    ∃ w',(Instr.storeAt t p' v').run P w=.ok () w'∧Sim P R h w R h' w':=by
  unfold storeT at hst
  split at hst
  · rename_i a
    rw [VR_ptr] at hp
    obtain ⟨a',rfl,ha⟩:=hp
    split at hst
    · rename_i i hi
      split at hst
      · rename_i hsz
        have hc:=hv.cells
        obtain ⟨w',h1,h2⟩:=storeN_sim (P:=P) k ha (vs':=v'.cells.toList) (by simpa using hc) hst
        refine ⟨w',?_,h2⟩
        have:v'.cells.size=i.size:=by rw [hc.1,hsz]
        simp [Instr.storeAt,Instr.sureAddr,storeVar,sizeOf,typeInfo,hi,this,h1]
      · cases hst
    · cases hst
  · cases hst

/-! ### new blocks -/
theorem ObjR_cells {cs cs':Array Value} (hc:ArrR (VR R) cs cs') (t t':TypeId) (fr:Nat × Nat):ObjR R (.cells cs t fr) (.cells cs' t' fr) :=
  ⟨cs',t',fr,rfl,by rw [hc.1]; exact Nat.le_refl _,fun i v hv=>let ⟨v',h1,h2⟩:=hc.get hv; ⟨v',h1,h2⟩,fun _ _=>rfl⟩

theorem newRow_sim (k:Rel P R (hget h) w) {cs cs':Array Value} (hc:ArrR (VR R) cs cs') (t:TypeId) :
    ∃ R' w',(newRow t cs').run P w=.ok ⟨w.heap.size,0,none⟩ w'∧AR R' ⟨h.size,0,none⟩ ⟨w.heap.size,0,none⟩∧R'.slack h.size=none∧Sim P R h w R' (h.push (.cells cs t (0,0))) w':=by
  have hle:=Ren.le_bind k w.heap.size none
  have hs:=Sim.alloc k (o:=.cells cs t (0,0)) (o':=.cells cs' t (0,0)) (sl:=none) ⟨by simp [isSlack],fun z r e=>by cases e⟩ (ObjR_cells (hc.monoR hle) t t (0,0))
  refine ⟨_,_,?_,⟨rfl,rfl,.inr ⟨by simp [Ren.bind],rfl⟩⟩,by simp [Ren.bind],hs⟩
  simp [newRow,run_newObj_alloc]

theorem alloc_sim (k:Rel P R (hget h) w) {t:TypeId} {z:Value} (hz:zeroA P t=some z) (old:Value) :
    StepSim P R h w (Instr.alloc t true old) (.pointer (some ⟨h.size,0,none⟩)) (h.push (.cells z.cells t (0,0))):=by
  obtain ⟨h1,h2,_⟩:=zeroA_run (P:=P) (R:=R) (w:=w) hz
  obtain ⟨R',w',g1,g2,g3,g4⟩:=newRow_sim (P:=P) k h2.cells t
  refine ⟨R',w',.pointer (some ⟨w.heap.size,0,none⟩),?_,by rw [VR_ptr]; exact ⟨_,rfl,g2⟩,g4⟩
  simp [Instr.alloc,h1,newVar,g1]

theorem box_sim (k:Rel P R (hget h) w) {t:TypeId} {v v':Value} (hv:VR R v v') :
    StepSim P R h w (Instr.box t v') (.pointer (some ⟨h.size,0,none⟩)) (h.push (.cells v.cells t (0,0))):=by
  obtain ⟨R',w',g1,g2,g3,g4⟩:=newRow_sim (P:=P) k hv.cells t
  refine ⟨R',w',.pointer (some ⟨w.heap.size,0,none⟩),?_,by rw [VR_ptr]; exact ⟨_,rfl,g2⟩,g4⟩
  simp [Instr.box,newVar,g1]

theorem splice_rel:∀ (l l':List Value) (c c':Array Value) (o:Nat),ArrR (VR R) c c'→ArrR (VR R) l.toArray l'.toArray→ArrR (VR R) (splice c o l) (splice c' o l')
  | [],[],c,c',o,hc,_=>hc
  | [],_ :: _,_,_,_,_,hl=>by have:=hl.1; simp at this
  | _ :: _,[],_,_,_,_,hl=>by have:=hl.1; simp at this
  | v :: l,v' :: l',c,c',o,hc,hl=>by
    have h0:VR R v v':=hl.2 0 v v' (by simp) (by simp)
    refine splice_rel l l' _ _ (o + 1) (hc.set o h0) ⟨by have:=hl.1; simpa using this,fun i u u' hu hu'=>?_⟩
    exact hl.2 (i + 1) u u' (by simpa using hu) (by simpa using hu')

theorem foldl_splice:∀ (l:List Value) (k o:Nat) (c:Array Value),(l.zipIdx k).foldl (fun cs p=>cs.setIfInBounds (o + p.2) p.1) c=splice c (o + k) l
  | [],k,o,c=>rfl
  | v :: l,k,o,c=>by
    simp only [List.zipIdx_cons,List.foldl_cons,splice]
    rw [foldl_splice l (k + 1) o,Nat.add_assoc]

theorem fill_rel {place:Nat→Option (Nat × Nat)} {ev ev':Operand→Value}:∀ (ps:List (Nat × Operand)) (c c' r:Array Value),(∀ p ∈ ps,VR R (ev p.2) (ev' p.2))→ArrR (VR R) c c' →
    Instr.fill place c (ps.map fun p=>(p.1,ev p.2))=some r→∃ r',Instr.fill place c' (ps.map fun p=>(p.1,ev' p.2))=some r'∧ArrR (VR R) r r'
  | [],c,c',r,_,hc,hf=>by simp [Instr.fill] at hf; subst hf; exact ⟨c',by simp [Instr.fill],hc⟩
  | p :: ps,c,c',r,hp,hc,hf=>by
    have hv:=(hp p (by simp)).cells
    simp only [List.map_cons,Instr.fill] at hf ⊢
    split at hf
    · cases hf
    · rename_i off size hpl
      split at hf
      · cases hf
      · rename_i hcond
        rw [if_neg (by rw [hv.1,hc.1]; exact hcond)]
        refine fill_rel ps _ _ r (fun q hq=>hp q (by simp [hq])) ?_ hf
        have e:∀ (a c:Array Value),a.zipIdx.foldl (fun cs (x:Value × Nat)=>match x with | (c,j)=>cs.setIfInBounds (off + j) c) c=splice c off a.toList:=by
          intro a c
          have:=foldl_splice a.toList 0 off c
          rw [Nat.add_zero] at this
          rw [← this,← Array.foldl_toList]
          simp [Array.toList_zipIdx]
        rw [e,e]
        exact splice_rel _ _ _ _ _ hc (by simpa using hv)

theorem built_rel {t:TypeId} {z:Value} (hz:zeroA P t=some z) {ev ev':Operand→Value} {ps:Array (Nat × Operand)} (hp:∀ p ∈ ps,VR R (ev p.2) (ev' p.2)) {cs:Array Value}
    (hb:P.built t (ps.map fun (i,x)=>(i,ev x)).toList=some cs):∃ cs',P.built t (ps.map fun (i,x)=>(i,ev' x)).toList=some cs'∧ArrR (VR R) cs cs':=by
  obtain ⟨_,hzr,i,hi,hiz⟩:=zeroA_run (P:=P) (R:=R) (w:=default) hz
  have key:=fun (place:Nat→Option (Nat × Nat)) (r:Array Value)=>fill_rel (R:=R) (place:=place) (ev:=ev) (ev':=ev') ps.toList z.cells z.cells r (fun p hq=>hp p (by simpa using hq)) hzr.cells
  simp only [Array.toList_map] at hb ⊢
  unfold Program.built at hb ⊢
  cases hu:P.underlying t with
  | none=>simp [hi,hu] at hb
  | some d =>
    cases d <;> try (simp [hi,hu] at hb; done)
    case array n e =>
      cases hie:P.info? e with
      | none=>simp [hi,hu,hiz,hie] at hb
      | some ie =>
        simp only [hi,hu,hiz,hie] at hb ⊢
        exact key _ _ hb
    case struct fields =>
      cases hpl:fields.toList.mapM (fun f=>(P.info? f.type).map fun i=>(f.offset,i.size)) with
      | none=>simp [hi,hu,hiz,hpl] at hb
      | some places =>
        simp only [hi,hu,hiz,hpl] at hb ⊢
        exact key _ _ hb

theorem build_sim (k:Rel P R (hget h) w) {t:TypeId} {z:Value} (hz:zeroA P t=some z) {ev ev':Operand→Value} {ps:Array (Nat × Operand)} (hp:∀ p ∈ ps,VR R (ev p.2) (ev' p.2)) {cs:Array Value}
    (hb:P.built t (ps.map fun (i,x)=>(i,ev x)).toList=some cs):StepSim P R h w (Instr.build t (ps.map fun (i,x)=>(i,ev' x))) (.agg cs) h:=by
  obtain ⟨cs',h1,h2⟩:=built_rel hz hp hb
  exact .pure k (run_build w t _ cs' h1) (by rw [VR_agg]; exact ⟨_,rfl,h2⟩)

def bslice (P:Program) (t:TypeId) (len:Nat) (ps:List (Nat × Value)):Option (Array Value × TypeId) :=
  match P.underlying t with
  | some (.slice e)=>match P.info? e with
    | some i =>
      if len * i.size > 2 ^ 24 then none else
      match (if len * i.size=0 then some #[] else (zeroA P e).map (·.cells)) with
      | some z=>(Instr.fill (fun j=>some (j * i.size,i.size)) ((Array.range (len * i.size)).map (z[· % z.size]!)) ps).map fun cs=>(cs,e)
      | none=>none
    | none=>none
  | _=>none

theorem VR_undef:VR R undef undef:=by
  unfold undef; rw [VR_tuple]; exact ⟨_,rfl,ArrR.empty _⟩

theorem zrow_rel {z:Array Value} (hz:ArrR (VR R) z z) (n:Nat) (h0:n ≠ 0→0 < z.size):ArrR (VR R) ((Array.range n).map (z[· % z.size]!)) ((Array.range n).map (z[· % z.size]!)):=by
  refine ⟨rfl,fun i u u' hu hu'=>?_⟩
  rw [hu] at hu'; cases hu'
  simp only [Array.getElem?_map,Array.getElem?_range] at hu
  split at hu
  · rename_i hi
    simp only [Option.map_some,Option.some.injEq] at hu
    have hpos:=h0 (by omega)
    have hlt:i % z.size < z.size:=Nat.mod_lt _ hpos
    subst hu
    rw [getElem!_pos z _ hlt]
    exact hz.2 (i % z.size) _ _ (by simp [hlt]) (by simp [hlt])
  · cases hu

theorem bslice_sim (k:Rel P R (hget h) w) {t:TypeId} {len:Nat} {ev ev':Operand→Value} {ps:Array (Nat × Operand)} (hp:∀ p ∈ ps,VR R (ev p.2) (ev' p.2)) {cs:Array Value} {e:TypeId}
    (hz0:∀ z,zeroA P e=some z→0 < z.cells.size) (hb:bslice P t len (ps.map fun (i,x)=>(i,ev x)).toList=some (cs,e)) :
    StepSim P R h w (Instr.buildSlice t len (ps.map fun (i,x)=>(i,ev' x))) (.slice (some ⟨h.size,0,none⟩) len len) (h.push (.cells cs e (0,0))):=by
  unfold bslice at hb
  split at hb
  · rename_i e0 hu
    split at hb
    · rename_i i hi
      split at hb
      · cases hb
      · rename_i hbig
        split at hb
        · rename_i z hz
          simp only [Option.map_eq_some_iff,Prod.mk.injEq] at hb
          obtain ⟨cs0,hf,rfl,rfl⟩:=hb
          have hzz:ArrR (VR R) z z∧(len * i.size ≠ 0→0 < z.size)∧(do (if len * i.size=0 then pure #[] else do pure (← zeroValue e0).cells):Sem (Array Value)).run P w=.ok z w:=by
            split at hz
            · rename_i h0; cases hz; exact ⟨ArrR.empty _,fun hh=>absurd h0 hh,by simp [h0]⟩
            · rename_i h0
              simp only [Option.map_eq_some_iff] at hz
              obtain ⟨z0,hz1,rfl⟩:=hz
              obtain ⟨g1,g2,_⟩:=zeroA_run (P:=P) (R:=R) (w:=w) hz1
              exact ⟨g2.cells,fun _=>hz0 _ hz1,by simp [h0,g1]⟩
          simp only [Array.toList_map] at hf
          obtain ⟨cs',hf',hc⟩:=fill_rel (R:=R) (ev:=ev) (ev':=ev') ps.toList _ _ _ (fun p hq=>hp p (by simpa using hq)) (zrow_rel hzz.1 (len * i.size) hzz.2.1) hf
          obtain ⟨R',w',g1,g2,g3,g4⟩:=newRow_sim (P:=P) k hc e0
          refine ⟨R',w',.slice (some ⟨w.heap.size,0,none⟩) len len,?_,?_,g4⟩
          · have hf'':Instr.fill (fun i_1=>some (i_1 * i.size,i.size)) (Array.map (fun x=>z[x % z.size]!) (Array.range (len * i.size))) (Array.map (fun x=>match x with | (i,x)=>(i,ev' x)) ps).toList=some cs':=by
              simp only [Array.toList_map]; exact hf'
            have hs:(sizeOf e0).run P w=.ok i.size w:=by simp [sizeOf,typeInfo,hi]
            have hbig':¬ 16777216 < len * i.size:=by simpa using hbig
            by_cases h0:len * i.size=0
            · rw [if_pos h0] at hz; cases hz
              rw [h0] at hf''
              simp at hf''
              simp [Instr.buildSlice,run_underlying hu,hs,h0,hf'',g1]
            · rw [if_neg h0] at hz
              simp only [Option.map_eq_some_iff] at hz
              obtain ⟨z0,hz1,rfl⟩:=hz
              obtain ⟨q1,_,_⟩:=zeroA_run (P:=P) (R:=R) (w:=w) hz1
              simp at hf''
              simp [Instr.buildSlice,run_underlying hu,hs,h0,hbig',hf'',g1,q1]
          · rw [VR_slice]
            exact ⟨_,_,rfl,.inl ⟨⟨rfl,rfl,by rcases g2.2.2 with q | q; exact .inl q; exact .inr ⟨q.1,.inl q.2⟩⟩,.inl rfl⟩⟩
        · cases hb
    · cases hb
  · cases hb
end
end Go.AM
