/- An abstract machine for Go, part 12: one operation, on both sides. -/
import Derived.Test.YtjkcadbblgefdaaGreatDoorAmk
import Derived.Laws.Externs
namespace Go.AM

section
variable {P : Program} {R : Ren} {h h' : Heap} {w w' : World}

def withH (h:Heap) (v:Option Value):Option (Value × Heap):=v.map fun v=>(v,h)

def builtinA (P:Program) (b:Builtin) (ts:Array TypeId) (args:Array Value) (h:Heap):Option (Value × Heap) :=
 match b with
 | .len=>match ts[0]?,args[0]? with
  | some t,some x=>withH h (lenA P h t x)
  | _,_=>none
 | .append=>appendA P h ts args
 | .max=>withH h (maxA args.toList)
 | .min=>withH h (minA args.toList)
 | .delete=>match ts[0]?,args[0]?,args[1]? with
  | some t,some x,some k=>(deleteA P h t x k).map fun h'=>(.tuple #[],h')
  | _,_,_=>none
 | _=>none

/-- math/bits.Add64 has no body here. -/
def isAdd64 (P:Program) (k:FuncId):Bool:=match P.funcs[k]? with
 | some fn=>fn.body.isNone && ((fn.name == "math/bits.Add64") && (Extern.findNext fn).isNone)
 | none=>false
def add64A:List Value→Option Value
 | [.int .u64 x,.int .u64 y,.int .u64 c]=>if 0≤x∧0≤y∧0≤c∧c≤1 then some (.tuple #[.int .u64 ((x + y + c) % 18446744073709551616),.int .u64 ((x + y + c) / 18446744073709551616)]) else none
 | _=>none
theorem add64_run {k:FuncId} (hk:isAdd64 P k=true) {args:Array Value} {v:Value} (hv:add64A args.toList=some v):(callFunc k args).run P w=.ok (.value v) w∧∃ a b,v=.tuple #[.int .u64 a,.int .u64 b]:=by
 unfold isAdd64 at hk
 split at hk
 ·rename_i fn hf
  rw [Bool.and_eq_true,Bool.and_eq_true] at hk
  obtain ⟨hb,hn,hx⟩:=hk
  have hn':fn.name= "math/bits.Add64":=by simpa using hn
  unfold add64A at hv
  split at hv
  ·rename_i x y c ha
   split at hv
   ·rename_i hc
    cases hv
    have ea:args=#[.int .u64 x,.int .u64 y,.int .u64 c]:=by rw [← Array.toArray_toList (xs:=args),ha]
    refine ⟨?_,_,_,rfl⟩
    have hb':fn.body=none:=by simpa using hb
    rw [run_callFunc_extern hf (by rw [hn']; decide) hb (e:=add64Entry) (by simpa using hx) (by simp only [Extern.find,hn']; kernel_rfl),ea,run_add64 x y c hc.1 hc.2.1 hc.2.2.1 hc.2.2.2]
    rfl
   ·cases hv
  ·cases hv
 ·cases hk

/-- One operation that is no call of a function: the value that it yields, and the heap behind it. -/
def amOp (P:Program) (ev:Operand→Value) (o:Oper) (h:Heap):Option (Value × Heap) :=
 match o.op with
 | .move x | .assign x=>some (ev x,h)
 | .pick c a b=>match ev c with
  | .bool t=>some (if t then ev a else ev b,h)
  | _=>none
 | .alloc t=>(zeroA P t).map fun z=>(.pointer (some ⟨h.size,0,none⟩),h.push (.cells z.cells t (0,0)))
 | .box t x=>some (.pointer (some ⟨h.size,0,none⟩),h.push (.cells (ev x).cells t (0,0)))
 | .build t ps=>if (zeroA P t).isSome then (P.built t (ps.map fun (i,x)=>(i,ev x)).toList).map fun cs=>(.agg cs,h) else none
 | .buildSlice t len ps=>match P.underlying t with
  | some (.slice e0)=>match zeroA P e0 with
   | some z=>if 0 < z.cells.size then
     (bslice P t len (ps.map fun (i,x)=>(i,ev x)).toList).map fun (cs,e)=>(.slice (some ⟨h.size,0,none⟩) len len,h.push (.cells cs e (0,0)))
    else none
   | none=>none
  | _=>none
 | .load t a=>withH h (loadT P h t (ev a))
 | .store t a x=>(storeT P h t (ev a) (ev x)).map fun h'=>(undef,h')
 | .nilCheck x=>match ev x with
  | .pointer (some a)=>some (.pointer (some a),h)
  | .func (.func f) fs cs=>some (.func (.func f) fs cs,h)
  | .func (.yield l) fs cs=>some (.func (.yield l) fs cs,h)
  | _=>none
 | .binOp op t x y _=>withH h (binA P op t (ev x) (ev y))
 | .unOp op _ x=>withH h (unA op (ev x))
 | .convert s d x=>match convA P s d (ev x) with
  | some v=>some (v,h)
  | none=>withH h (bytesStrA P h s d (ev x))
 | .makeFunc (.func f) fs cs=>some (.func (.func f) (fs.map ev) (cs.map ev),h)
 | .makeMap t none=>some (.map (some h.size),h.push (.map #[] 0))
 | .makeSlice t l c=>makeSliceA P h t (ev l) (ev c)
 | .slice t x lo hi mx=>withH h (sliceA P h t (ev x) (lo.map ev) (hi.map ev) (mx.map ev))
 | .fieldAddr s x f=>withH h (fieldAddrA P s (ev x) f)
 | .field t x f=>withH h (fieldA P t (ev x) f)
 | .indexAddr t x i=>withH h (indexAddrA P t (ev x) (ev i))
 | .index t x i=>withH h (indexA P t (ev x) (ev i))
 | .lookup t x i ok=>withH h (lookupA P h t (ev x) (ev i) ok)
 | .mapUpdate t m k x | .insert t m k x=>(mapUpdateA P h t (ev m) (ev k) (ev x)).map fun h'=>(undef,h')
 | .mapEntry t m k=>mapEntryA P h t (ev m) (ev k)
 | .entryStore _ m s x=>(entryStoreA h (ev m) (ev s) (ev x)).map fun h'=>(undef,h')
 | .range t x=>rangeA P h t (ev x)
 | .next it s=>nextA h (ev it) s
 | .extract t i=>match ev t with
  | .tuple vs=>(vs[i]?).map fun v=>(v,h)
  | _=>none
 | .call { callee:=.builtin b,args,argTypes }=>builtinA P b argTypes (args.map ev) h
 | .call { callee:=.value f,args,.. }=>match ev f with
  | .func (.func k) first cap=>if (first.isEmpty && cap.isEmpty && isAdd64 P k)=true then withH h (add64A (args.map ev).toList) else none
  | _=>none
 | _=>none

/-- What one operation does, on both sides. -/
def OpSim (P:Program) (R:Ren) (h:Heap) (w:World) (s:Sem Next) (v:Value) (h':Heap):Prop :=
 ∃ R' w' v',(s.run P w=.ok (.value v') w' ∨ (s.run P w=.ok .skip w'∧v'=undef))∧VR R' v v'∧Sim P R h w R' h' w'

theorem StepSim.op {s:Sem Value} {v:Value} (hs:StepSim P R h w s v h'):OpSim P R h w (do Pure.pure (Next.value (← s)):Sem Next) v h':=by
 obtain ⟨R',w',v',h1,h2,h3⟩:=hs
 exact ⟨R',w',v',.inl (by simp [h1]),h2,h3⟩

theorem opSim_value (k:Rel P R (hget h) w) {s:Sem Value} {v v':Value} (hr:s.run P w=.ok v' w) (hv:VR R v v'):OpSim P R h w (do pure (Next.value (← s)):Sem Next) v h:=(StepSim.pure k hr hv).op

theorem opSim_store {s:Sem Unit} (hs:∃ w',s.run P w=.ok () w'∧Sim P R h w R h' w'):OpSim P R h w (do s; pure Next.skip:Sem Next) undef h':=by
 obtain ⟨w',h1,h2⟩:=hs
 exact ⟨R,w',undef,.inr ⟨by simp [h1],rfl⟩,VR_undef,h2⟩

theorem optMap_rel {ev ev':Operand→Value} (x:Option Operand) (hx:∀ y,x=some y→VR R (ev y) (ev' y)):OptR R (x.map ev) (x.map ev'):=by
 cases x with
 | none=>exact .inl ⟨rfl,rfl⟩
 | some y=>exact .inr ⟨_,_,rfl,rfl,hx y rfl⟩

theorem arrMap_rel {ev ev':Operand→Value} (xs:Array Operand) (hx:∀ y ∈ xs,VR R (ev y) (ev' y)):ArrR (VR R) (xs.map ev) (xs.map ev'):=by
 refine ⟨by simp,fun i u u' hu hu'=>?_⟩
 simp only [Array.getElem?_map,Option.map_eq_some_iff] at hu hu'
 obtain ⟨y,hy,rfl⟩:=hu
 obtain ⟨y',hy',rfl⟩:=hu'
 rw [hy] at hy'; cases hy'
 exact hx y (Array.mem_of_getElem? hy)

theorem withH_some {v:Option Value} {u:Value} (e:withH h v=some (u,h')):v=some u∧h'=h:=by
 simp only [withH,Option.map_eq_some_iff,Prod.mk.injEq] at e
 obtain ⟨a,h1,rfl,rfl⟩:=e
 exact ⟨h1,rfl⟩

theorem builtinA_sim (k:Rel P R (hget h) w) {b:Builtin} {ts:Array TypeId} {ty:TypeId} {consts:Array Bool} {args args':Array Value} (ha:ArrR (VR R) args args') {v:Value} (hv:builtinA P b ts args h=some (v,h')) :
  OpSim P R h w (builtin b ts ty consts args') v h':=by
 unfold builtinA at hv
 split at hv
 ·split at hv
  ·rename_i t x ht hx
   obtain ⟨h1,rfl⟩:=withH_some hv
   obtain ⟨x',hx',rx⟩:=ha.get hx
   obtain ⟨g1,g2⟩:=lenA_sim (ty:=ty) k ht hx' rx h1
   exact opSim_value k g1 g2
  ·cases hv
 ·exact (appendA_sim k ha hv).op
 ·obtain ⟨h1,rfl⟩:=withH_some hv
  obtain ⟨v',g1,g2⟩:=maxA_sim (P:=P) (w:=w) (ts:=ts) (ty:=ty) ha h1
  exact opSim_value k g1 g2
 ·obtain ⟨h1,rfl⟩:=withH_some hv
  obtain ⟨v',g1,g2⟩:=minA_sim (P:=P) (w:=w) (ts:=ts) (ty:=ty) ha h1
  exact opSim_value k g1 g2
 ·split at hv
  ·rename_i t x key ht hx hk
   simp only [Option.map_eq_some_iff,Prod.mk.injEq] at hv
   obtain ⟨h1,hd,rfl,rfl⟩:=hv
   obtain ⟨x',hx',rx⟩:=ha.get hx
   obtain ⟨k',hk',rk⟩:=ha.get hk
   obtain ⟨w',g1,g2⟩:=deleteA_sim (ty:=ty) k ht hx' hk' rx rk hd
   exact ⟨R,w',.tuple #[],.inl (by simp [builtin,g1]),VR_undef,g2⟩
  ·cases hv
 ·cases hv

theorem amOp_sim (k:Rel P R (hget h) w) {ev ev':Operand→Value} {o:Oper} (ho:∀ x ∈ o.op.operands,VR R (ev x) (ev' x)) {v:Value} (hv:amOp P ev o h=some (v,h')) :
  OpSim P R h w (execOp ev' o) v h':=by
 unfold amOp at hv
 unfold execOp
 split at hv
 ·rename_i x hop
  cases hv
  simp only [hop]
  exact ⟨R,w,ev' x,.inl rfl,ho x (by simp [hop,Op.operands]),.refl k⟩
 ·rename_i x hop
  cases hv
  simp only [hop]
  exact ⟨R,w,ev' x,.inl rfl,ho x (by simp [hop,Op.operands]),.refl k⟩
 ·rename_i c a b hop
  split at hv
  ·rename_i t hc
   cases hv
   have hc':=ho c (by simp [hop,Op.operands])
   rw [hc,VR_bool] at hc'
   simp only [hop]
   refine ⟨R,w,if t then ev' a else ev' b,.inl (by simp [hc',asBool]),?_,.refl k⟩
   split
   ·exact ho a (by simp [hop,Op.operands])
   ·exact ho b (by simp [hop,Op.operands])
  ·cases hv
 ·rename_i t hop
  simp only [Option.map_eq_some_iff,Prod.mk.injEq] at hv
  obtain ⟨z,hz,rfl,rfl⟩:=hv
  simp only [hop]
  exact (alloc_sim k hz _).op
 ·rename_i t x hop
  cases hv
  simp only [hop]
  exact (box_sim k (ho x (by simp [hop,Op.operands]))).op
 ·rename_i t ps hop
  split at hv
  ·rename_i hz
   obtain ⟨z,hz⟩:=Option.isSome_iff_exists.1 hz
   simp only [Option.map_eq_some_iff,Prod.mk.injEq] at hv
   obtain ⟨cs,hb,rfl,rfl⟩:=hv
   simp only [hop]
   refine (build_sim k hz (ev:=ev) (fun p hp=>ho p.2 ?_) hb).op
   simp only [hop,Op.operands,List.mem_toArray,List.mem_map,Array.mem_toList_iff]
   exact ⟨p,hp,rfl⟩
  ·cases hv
 ·rename_i t len ps hop
  split at hv
  ·rename_i e0 hu
   split at hv
   ·rename_i z hz
    split at hv
    ·rename_i hpos
     simp only [Option.map_eq_some_iff,Prod.mk.injEq] at hv
     obtain ⟨⟨cs,e⟩,hb,rfl,rfl⟩:=hv
     simp only [hop]
     have hee:e=e0:=by
      unfold bslice at hb
      rw [hu] at hb
      simp only at hb
      split at hb
      ·split at hb
       ·cases hb
       ·split at hb
        ·simp only [Option.map_eq_some_iff,Prod.mk.injEq] at hb
         obtain ⟨_,_,_,q⟩:=hb; exact q.symm
        ·cases hb
      ·cases hb
     subst hee
     refine (bslice_sim k (ev:=ev) (fun p hp=>ho p.2 ?_) (fun z' hz'=>by rw [hz] at hz'; cases hz'; exact hpos) hb).op
     simp only [hop,Op.operands,List.mem_toArray,List.mem_map,Array.mem_toList_iff]
     exact ⟨p,hp,rfl⟩
    ·cases hv
   ·cases hv
  ·cases hv
 ·rename_i t a hop
  obtain ⟨h1,rfl⟩:=withH_some hv
  simp only [hop]
  exact (loadT_sim k (ho a (by simp [hop,Op.operands])) h1).op
 ·rename_i t a x hop
  simp only [Option.map_eq_some_iff,Prod.mk.injEq] at hv
  obtain ⟨h1,hs,rfl,rfl⟩:=hv
  simp only [hop]
  exact opSim_store (storeT_sim k (ho a (by simp [hop,Op.operands])) (ho x (by simp [hop,Op.operands])) hs)
 ·rename_i x hop
  have hx:=ho x (by simp [hop,Op.operands])
  simp only [hop]
  split at hv
  ·rename_i a hc
   cases hv
   rw [hc] at hx
   have hx0:=hx
   rw [VR_ptr] at hx
   obtain ⟨a',e,_⟩:=hx
   rw [e] at hx0
   exact ⟨R,w,.pointer (some a'),.inl (by simp [e]),hx0,.refl k⟩
  ·rename_i f fs cs hc
   cases hv
   rw [hc] at hx
   have hx0:=hx
   rw [VR_func] at hx
   obtain ⟨f',fs',cs',e,hf,_⟩:=hx
   simp only [FnR] at hf
   subst hf
   rw [e] at hx0
   exact ⟨R,w,.func (.func f) fs' cs',.inl (by simp [e]),hx0,.refl k⟩
  ·rename_i l fs cs hc
   cases hv
   rw [hc] at hx
   have hx0:=hx
   rw [VR_func] at hx
   obtain ⟨f',fs',cs',e,hf,_⟩:=hx
   simp only [FnR] at hf
   obtain ⟨l',rfl,_⟩:=hf
   rw [e] at hx0
   exact ⟨R,w,.func (.yield l') fs' cs',.inl (by simp [e]),hx0,.refl k⟩
  ·cases hv
 ·rename_i op t x y yt hop
  obtain ⟨h1,rfl⟩:=withH_some hv
  simp only [hop]
  obtain ⟨g1,g2⟩:=binA_sim (P:=P) (w:=w) (ox:=x) (oy:=y) h1 (ho x (by simp [hop,Op.operands])) (ho y (by simp [hop,Op.operands]))
  exact opSim_value k g1 g2
 ·rename_i op t x hop
  obtain ⟨h1,rfl⟩:=withH_some hv
  simp only [hop]
  obtain ⟨g1,g2⟩:=unA_sim (P:=P) (w:=w) h1 (ho x (by simp [hop,Op.operands]))
  exact opSim_value k g1 g2
 ·rename_i s d x hop
  simp only [hop]
  have hx:=ho x (by simp [hop,Op.operands])
  split at hv
  ·rename_i u hu
   cases hv
   obtain ⟨g1,g2⟩:=convA_sim (P:=P) (w:=w) hu hx
   exact opSim_value k g1 g2
  ·obtain ⟨h1,rfl⟩:=withH_some hv
   obtain ⟨g1,g2⟩:=bytesStrA_sim k hx h1
   exact opSim_value k g1 g2
 ·rename_i fn fs cs hop
  cases hv
  simp only [hop]
  refine opSim_value k (v':=.func (.func fn) (fs.map ev') (cs.map ev')) (by simp [Instr.makeFunc]) ?_
  rw [VR_func]
  have h1:=arrMap_rel (R:=R) (ev:=ev) (ev':=ev') fs (fun y hy=>ho y (by simp [hop,Op.operands,hy]))
  have h2:=arrMap_rel (R:=R) (ev:=ev) (ev':=ev') cs (fun y hy=>ho y (by simp [hop,Op.operands,hy]))
  exact ⟨_,_,_,rfl,rfl,h1,h2⟩
 ·rename_i t hop
  cases hv
  simp only [hop]
  exact (makeMap_sim k t).op
 ·rename_i t l c hop
  simp only [hop]
  exact (makeSliceA_sim k (ho l (by simp [hop,Op.operands])) (ho c (by simp [hop,Op.operands])) hv).op
 ·rename_i t x lo hi mx hop
  obtain ⟨h1,rfl⟩:=withH_some hv
  simp only [hop]
  obtain ⟨v',g1,g2⟩:=sliceA_sim (P:=P) (w:=w) k (ho x (by simp [hop,Op.operands])) (optMap_rel (ev:=ev) (ev':=ev') lo (fun y hy=>ho y (by simp [hop,Op.operands,hy])))
   (optMap_rel (ev:=ev) (ev':=ev') hi (fun y hy=>ho y (by simp [hop,Op.operands,hy]))) (optMap_rel (ev:=ev) (ev':=ev') mx (fun y hy=>ho y (by simp [hop,Op.operands,hy]))) h1
  exact opSim_value k g1 g2
 ·rename_i s x f hop
  obtain ⟨h1,rfl⟩:=withH_some hv
  simp only [hop]
  obtain ⟨v',g1,g2⟩:=fieldAddrA_sim (P:=P) (w:=w) (ho x (by simp [hop,Op.operands])) h1
  exact opSim_value k g1 g2
 ·rename_i t x f hop
  obtain ⟨h1,rfl⟩:=withH_some hv
  simp only [hop]
  obtain ⟨v',g1,g2⟩:=fieldA_sim (P:=P) (w:=w) (ho x (by simp [hop,Op.operands])) h1
  exact opSim_value k g1 g2
 ·rename_i t x i hop
  obtain ⟨h1,rfl⟩:=withH_some hv
  simp only [hop]
  obtain ⟨v',g1,g2⟩:=indexAddrA_sim (P:=P) (w:=w) (ho x (by simp [hop,Op.operands])) (ho i (by simp [hop,Op.operands])) h1
  exact opSim_value k g1 g2
 ·rename_i t x i hop
  obtain ⟨h1,rfl⟩:=withH_some hv
  simp only [hop]
  obtain ⟨v',g1,g2⟩:=indexA_sim (P:=P) (w:=w) (ho x (by simp [hop,Op.operands])) (ho i (by simp [hop,Op.operands])) h1
  exact opSim_value k g1 g2
 ·rename_i t x i ok hop
  obtain ⟨h1,rfl⟩:=withH_some hv
  simp only [hop]
  exact (lookupA_sim k (ho x (by simp [hop,Op.operands])) (ho i (by simp [hop,Op.operands])) h1).op
 ·rename_i t m key x hop
  simp only [Option.map_eq_some_iff,Prod.mk.injEq] at hv
  obtain ⟨h1,hs,rfl,rfl⟩:=hv
  simp only [hop]
  exact opSim_store (mapUpdateA_sim k (ho m (by simp [hop,Op.operands])) (ho key (by simp [hop,Op.operands])) (ho x (by simp [hop,Op.operands])) hs)
 ·rename_i t m key x hop
  simp only [Option.map_eq_some_iff,Prod.mk.injEq] at hv
  obtain ⟨h1,hs,rfl,rfl⟩:=hv
  simp only [hop]
  exact opSim_store (mapUpdateA_sim k (ho m (by simp [hop,Op.operands])) (ho key (by simp [hop,Op.operands])) (ho x (by simp [hop,Op.operands])) hs)
 ·rename_i t m key hop
  simp only [hop]
  exact (mapEntryA_sim k (ho m (by simp [hop,Op.operands])) (ho key (by simp [hop,Op.operands])) hv).op
 ·rename_i t m s x hop
  simp only [Option.map_eq_some_iff,Prod.mk.injEq] at hv
  obtain ⟨h1,hs,rfl,rfl⟩:=hv
  simp only [hop]
  exact opSim_store (entryStoreA_sim k (ho m (by simp [hop,Op.operands])) (ho s (by simp [hop,Op.operands])) (ho x (by simp [hop,Op.operands])) hs)
 ·rename_i t x hop
  simp only [hop]
  exact (rangeA_sim k (ho x (by simp [hop,Op.operands])) hv).op
 ·rename_i x s hop
  simp only [hop]
  exact (nextA_sim k (ho x (by simp [hop,Op.operands])) hv).op
 ·rename_i t i hop
  simp only [hop]
  have hx:=ho t (by simp [hop,Op.operands])
  split at hv
  ·rename_i vs hc
   simp only [Option.map_eq_some_iff,Prod.mk.injEq] at hv
   obtain ⟨u,hu,rfl,rfl⟩:=hv
   rw [hc,VR_tuple] at hx
   obtain ⟨vs',e,hr⟩:=hx
   obtain ⟨u',hu',ru⟩:=hr.get hu
   exact opSim_value k (v':=u') (by simp [e,Instr.extract,hu']) ru
  ·cases hv
 ·rename_i b args ts hop
  simp only [hop]
  have key:=fun consts=>builtinA_sim (ty:=o.type) (consts:=consts) k (arrMap_rel (R:=R) (ev:=ev) (ev':=ev') args (fun y hy=>ho y (by simp [hop,Op.operands,Call.operands,hy]))) hv
  exact key _
 ·rename_i f args ts hop
  simp only [hop]
  have hf:=ho f (by simp [hop,Op.operands,Call.operands])
  split at hv
  ·rename_i kf first cap hfv
   split at hv
   ·rename_i hb
    simp only [Bool.and_eq_true,Array.isEmpty_iff] at hb
    obtain ⟨⟨rfl,rfl⟩,hb⟩:=hb
    obtain ⟨h1,rfl⟩:=withH_some hv
    rw [hfv,VR_func] at hf
    obtain ⟨fn',first',cap',hge,hfn,e1,e2⟩:=hf
    simp only [FnR] at hfn
    subst hfn
    have e1':first'=#[]:=Array.eq_empty_of_size_eq_zero e1.1
    have e2':cap'=#[]:=Array.eq_empty_of_size_eq_zero e2.1
    subst e1'; subst e2'
    have ha:=arrMap_rel (R:=R) (ev:=ev) (ev':=ev') args (fun y hy=>ho y (by simp [hop,Op.operands,Call.operands,hy]))
    have hsame:args.map ev'=args.map ev:=by
     unfold add64A at h1
     split at h1
     ·rename_i x y c hl
      have ea:args.map ev=#[.int .u64 x,.int .u64 y,.int .u64 c]:=by rw [← Array.toArray_toList (xs:=args.map ev),hl]
      rw [ea] at ha ⊢
      apply Array.ext
      ·exact ha.1
      ·intro i hi hi'
       have q:=ha.2 i _ _ (Array.getElem?_eq_getElem hi') (Array.getElem?_eq_getElem hi)
       have hi3:i < 3:=hi'
       rcases (show i=0 ∨ i=1 ∨ i=2 by omega) with rfl | rfl | rfl
       ·exact VR_int.1 q
       ·exact VR_int.1 q
       ·exact VR_int.1 q
     ·cases h1
    obtain ⟨hr,a,b,rfl⟩:=add64_run (w:=w) hb h1
    refine ⟨R,w,.tuple #[.int .u64 a,.int .u64 b],.inl ?_,?_,Sim.refl k⟩
    ·simp [resolve,hge,Deferred.ofValue,invoke,hsame,hr]
    ·rw [VR_tuple]
     refine ⟨_,rfl,((ArrR.empty _).push ?_).push ?_⟩
     ·exact VR_int.2 rfl
     ·exact VR_int.2 rfl
   ·cases hv
  ·cases hv
 ·cases hv
end
end Go.AM
