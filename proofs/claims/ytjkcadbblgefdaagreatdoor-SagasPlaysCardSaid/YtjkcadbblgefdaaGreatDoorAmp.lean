/- An abstract machine for Go, part 16: which operations only reckon, which lay a block, which read. -/
import Derived.Test.YtjkcadbblgefdaaGreatDoorAmo
namespace Go.AM

section
variable {P : Program} {R R' : Ren} {h h' : Heap} {w w' : World}

/-- 0: reckons with values alone; 1: lays one new block; 2: reads memory; 3: whatever else. -/
def kindOf (P:Program) (o:Op):Nat :=
 match o with
 | .move _ | .assign _ | .pick .. | .build .. | .nilCheck _ | .binOp .. | .unOp .. | .makeFunc .. | .fieldAddr .. | .field .. | .indexAddr .. | .index .. | .extract ..=>0
 | .alloc _ | .box .. | .buildSlice .. | .makeMap _ none | .makeSlice ..=>1
 | .load .. | .lookup .. | .slice ..=>2
 | .convert s _ _=>match P.underlying s with
  | some (.slice _)=>2
  | _=>0
 | .call { callee:=.builtin .len,argTypes,.. }=>match argTypes[0]? with
  | some t=>match P.underlying t with
   | some (.map _ _)=>2
   | _=>0
  | none=>0
 | .call { callee:=.builtin .max,.. } | .call { callee:=.builtin .min,.. }=>0
 | _=>3

theorem optVal {s:Sem Value} {v':Value} (h:s.run P w=.ok v' w):(do pure (Next.value (← s)):Sem Next).run P w=.ok (.value v') w:=by simp [h]

theorem lenA_pure {t ty:TypeId} {ts:Array TypeId} {args':Array Value} (ht:ts[0]?=some t) (hm:∀ k e,P.underlying t ≠ some (.map k e)) {x x':Value} (hx':args'[0]?=some x') (hx:VR R x x') {v:Value} (hv:lenA P h t x=some v) :
  (Builtin.len_ ts ty args').run P w=.ok v w∧VR R v v:=by
 unfold lenA at hv
 split at hv
 ·rename_i hu; cases hv; rw [VR_string] at hx; subst hx
  exact ⟨by simp [Builtin.len_,ht,hx',run_underlying hu],by simp [goInt]⟩
 ·rename_i hu; cases hv
  refine ⟨?_,by simp [goInt]⟩
  simp only [Builtin.len_,ht,hx',Sem.run_bind,run_underlying hu,Result.andThen_ok]
  cases x' <;> rfl
 ·rename_i a n c hu; cases hv
  cases a with
  | none=>rw [VR_nilslice] at hx; subst hx; exact ⟨by simp [Builtin.len_,ht,hx',run_underlying hu],by simp [goInt]⟩
  | some a=>rw [VR_slice] at hx; obtain ⟨_,_,rfl,_⟩:=hx; exact ⟨by simp [Builtin.len_,ht,hx',run_underlying hu],by simp [goInt]⟩
 ·rename_i hu; exact absurd hu (hm _ _)
 ·rename_i hu; exact absurd hu (hm _ _)
 ·cases hv

/-- What only reckons. -/
theorem pure_val {ev:Operand→Value} {o:Oper} {v:Value} (hk:kindOf P o.op=0) (hv:amOp P ev o h=some (v,h')) :
  h'=h∧∀ (R:Ren) (ev':Operand→Value) (w:World),(∀ x ∈ o.op.operands,VR R (ev x) (ev' x))→∃ v',(execOp ev' o).run P w=.ok (.value v') w∧VR R v v':=by
 unfold amOp at hv
 split at hv
 ·rename_i x hop
  cases hv
  refine ⟨rfl,fun R ev' w ho=>⟨ev' x,?_,ho x (by simp [hop,Op.operands])⟩⟩
  unfold execOp; simp only [hop]; rfl
 ·rename_i x hop
  cases hv
  refine ⟨rfl,fun R ev' w ho=>⟨ev' x,?_,ho x (by simp [hop,Op.operands])⟩⟩
  unfold execOp; simp only [hop]; rfl
 ·rename_i c a b hop
  split at hv
  ·rename_i t hc
   cases hv
   refine ⟨rfl,fun R ev' w ho=>?_⟩
   have hc':=ho c (by simp [hop,Op.operands])
   rw [hc,VR_bool] at hc'
   refine ⟨if t then ev' a else ev' b,?_,?_⟩
   ·unfold execOp; simp only [hop]; simp [hc',asBool]
   ·split
    ·exact ho a (by simp [hop,Op.operands])
    ·exact ho b (by simp [hop,Op.operands])
  ·cases hv
 ·rename_i t hop; rw [hop] at hk; cases hk
 ·rename_i t x hop; rw [hop] at hk; cases hk
 ·rename_i t ps hop
  split at hv
  ·rename_i hz
   obtain ⟨z,hz⟩:=Option.isSome_iff_exists.1 hz
   simp only [Option.map_eq_some_iff,Prod.mk.injEq] at hv
   obtain ⟨cs,hb,rfl,rfl⟩:=hv
   refine ⟨rfl,fun R ev' w ho=>?_⟩
   obtain ⟨cs',h1,h2⟩:=built_rel (R:=R) hz (ev:=ev) (ev':=ev') (ps:=ps) (fun p hp=>ho p.2 (by
    simp only [hop,Op.operands,List.mem_toArray,List.mem_map,Array.mem_toList_iff]
    exact ⟨p,hp,rfl⟩)) hb
   refine ⟨.agg cs',?_,by rw [VR_agg]; exact ⟨_,rfl,h2⟩⟩
   unfold execOp; simp only [hop]; exact optVal (run_build w t _ cs' h1)
  ·cases hv
 ·rename_i t len ps hop; rw [hop] at hk; cases hk
 ·rename_i t a hop; rw [hop] at hk; cases hk
 ·rename_i t a x hop; rw [hop] at hk; cases hk
 ·rename_i x hop
  split at hv
  ·rename_i a hc
   cases hv
   refine ⟨rfl,fun R ev' w ho=>?_⟩
   have hx:=ho x (by simp [hop,Op.operands])
   rw [hc] at hx
   have hx0:=hx
   rw [VR_ptr] at hx
   obtain ⟨a',e,_⟩:=hx
   rw [e] at hx0
   exact ⟨.pointer (some a'),by unfold execOp; simp only [hop]; simp [e],hx0⟩
  ·rename_i f fs cs hc
   cases hv
   refine ⟨rfl,fun R ev' w ho=>?_⟩
   have hx:=ho x (by simp [hop,Op.operands])
   rw [hc] at hx
   have hx0:=hx
   rw [VR_func] at hx
   obtain ⟨f',fs',cs',e,hf,_⟩:=hx
   simp only [FnR] at hf
   subst hf
   rw [e] at hx0
   exact ⟨.func (.func f) fs' cs',by unfold execOp; simp only [hop]; simp [e],hx0⟩
  ·rename_i l fs cs hc
   cases hv
   refine ⟨rfl,fun R ev' w ho=>?_⟩
   have hx:=ho x (by simp [hop,Op.operands])
   rw [hc] at hx
   have hx0:=hx
   rw [VR_func] at hx
   obtain ⟨f',fs',cs',e,hf,_⟩:=hx
   simp only [FnR] at hf
   obtain ⟨l',rfl,_⟩:=hf
   rw [e] at hx0
   exact ⟨.func (.yield l') fs' cs',by unfold execOp; simp only [hop]; simp [e],hx0⟩
  ·cases hv
 ·rename_i op t x y yt hop
  obtain ⟨h1,rfl⟩:=withH_some hv
  refine ⟨rfl,fun R ev' w ho=>?_⟩
  obtain ⟨g1,g2⟩:=binA_sim (P:=P) (w:=w) (ox:=x) (oy:=y) h1 (ho x (by simp [hop,Op.operands])) (ho y (by simp [hop,Op.operands]))
  exact ⟨_,by unfold execOp; simp only [hop]; exact optVal g1,g2⟩
 ·rename_i op t x hop
  obtain ⟨h1,rfl⟩:=withH_some hv
  refine ⟨rfl,fun R ev' w ho=>?_⟩
  obtain ⟨g1,g2⟩:=unA_sim (P:=P) (w:=w) h1 (ho x (by simp [hop,Op.operands]))
  exact ⟨_,by unfold execOp; simp only [hop]; exact optVal g1,g2⟩
 ·rename_i s d x hop
  split at hv
  ·rename_i u hu
   cases hv
   refine ⟨rfl,fun R ev' w ho=>?_⟩
   obtain ⟨g1,g2⟩:=convA_sim (P:=P) (w:=w) hu (ho x (by simp [hop,Op.operands]))
   exact ⟨_,by unfold execOp; simp only [hop]; exact optVal g1,g2⟩
  ·obtain ⟨h1,rfl⟩:=withH_some hv
   exfalso
   rw [hop] at hk
   simp only [kindOf] at hk
   unfold bytesStrA at h1
   split at h1
   ·rename_i hs _ _; rw [hs] at hk; cases hk
   ·rename_i hs _ _; rw [hs] at hk; cases hk
   ·cases h1
 ·rename_i fn fs cs hop
  cases hv
  refine ⟨rfl,fun R ev' w ho=>?_⟩
  have h1:=arrMap_rel (R:=R) (ev:=ev) (ev':=ev') fs (fun y hy=>ho y (by simp [hop,Op.operands,hy]))
  have h2:=arrMap_rel (R:=R) (ev:=ev) (ev':=ev') cs (fun y hy=>ho y (by simp [hop,Op.operands,hy]))
  refine ⟨.func (.func fn) (fs.map ev') (cs.map ev'),by unfold execOp; simp only [hop]; simp [Instr.makeFunc],?_⟩
  rw [VR_func]
  exact ⟨_,_,_,rfl,rfl,h1,h2⟩
 ·rename_i t hop; rw [hop] at hk; cases hk
 ·rename_i t l c hop; rw [hop] at hk; cases hk
 ·rename_i t x lo hi mx hop; rw [hop] at hk; cases hk
 ·rename_i s x f hop
  obtain ⟨h1,rfl⟩:=withH_some hv
  refine ⟨rfl,fun R ev' w ho=>?_⟩
  obtain ⟨v',g1,g2⟩:=fieldAddrA_sim (P:=P) (w:=w) (ho x (by simp [hop,Op.operands])) h1
  exact ⟨_,by unfold execOp; simp only [hop]; exact optVal g1,g2⟩
 ·rename_i t x f hop
  obtain ⟨h1,rfl⟩:=withH_some hv
  refine ⟨rfl,fun R ev' w ho=>?_⟩
  obtain ⟨v',g1,g2⟩:=fieldA_sim (P:=P) (w:=w) (ho x (by simp [hop,Op.operands])) h1
  exact ⟨_,by unfold execOp; simp only [hop]; exact optVal g1,g2⟩
 ·rename_i t x i hop
  obtain ⟨h1,rfl⟩:=withH_some hv
  refine ⟨rfl,fun R ev' w ho=>?_⟩
  obtain ⟨v',g1,g2⟩:=indexAddrA_sim (P:=P) (w:=w) (ho x (by simp [hop,Op.operands])) (ho i (by simp [hop,Op.operands])) h1
  exact ⟨_,by unfold execOp; simp only [hop]; exact optVal g1,g2⟩
 ·rename_i t x i hop
  obtain ⟨h1,rfl⟩:=withH_some hv
  refine ⟨rfl,fun R ev' w ho=>?_⟩
  obtain ⟨v',g1,g2⟩:=indexA_sim (P:=P) (w:=w) (ho x (by simp [hop,Op.operands])) (ho i (by simp [hop,Op.operands])) h1
  exact ⟨_,by unfold execOp; simp only [hop]; exact optVal g1,g2⟩
 ·rename_i t x i ok hop; rw [hop] at hk; cases hk
 ·rename_i t m key x hop; rw [hop] at hk; cases hk
 ·rename_i t m key x hop; rw [hop] at hk; cases hk
 ·rename_i t m key hop; rw [hop] at hk; cases hk
 ·rename_i t m key x hop; rw [hop] at hk; cases hk
 ·rename_i t x hop; rw [hop] at hk; cases hk
 ·rename_i t x hop; rw [hop] at hk; cases hk
 ·rename_i t i hop
  split at hv
  ·rename_i vs hc
   simp only [Option.map_eq_some_iff,Prod.mk.injEq] at hv
   obtain ⟨u,hu,rfl,rfl⟩:=hv
   refine ⟨rfl,fun R ev' w ho=>?_⟩
   have hx:=ho t (by simp [hop,Op.operands])
   rw [hc,VR_tuple] at hx
   obtain ⟨vs',e,hr⟩:=hx
   obtain ⟨u',hu',ru⟩:=hr.get hu
   exact ⟨u',by unfold execOp; simp only [hop]; exact optVal (by simp [e,Instr.extract,hu']),ru⟩
  ·cases hv
 ·rename_i b args ts hop
  have hargs:∀ (R:Ren) (ev':Operand→Value),(∀ x ∈ o.op.operands,VR R (ev x) (ev' x))→ArrR (VR R) (args.map ev) (args.map ev'):=fun R ev' ho =>
   arrMap_rel (R:=R) (ev:=ev) (ev':=ev') args (fun y hy=>ho y (by simp [hop,Op.operands,Call.operands,hy]))
  rw [hop] at hk
  unfold builtinA at hv
  split at hv
  ·split at hv
   ·rename_i t x ht hx
    obtain ⟨h1,rfl⟩:=withH_some hv
    refine ⟨rfl,fun R ev' w ho=>?_⟩
    obtain ⟨x',hx',rx⟩:=(hargs R ev' ho).get hx
    have hm:∀ k e,P.underlying t ≠ some (.map k e):=by
     intro k e q
     simp only [kindOf,ht,q] at hk
     cases hk
    obtain ⟨g1,g2⟩:=lenA_pure (w:=w) (ty:=o.type) ht hm hx' rx h1
    exact ⟨_,by unfold execOp; simp only [hop]; simpa [resolve,invoke,builtin] using optVal g1,g2⟩
   ·cases hv
  ·simp [kindOf] at hk
  ·obtain ⟨h1,rfl⟩:=withH_some hv
   refine ⟨rfl,fun R ev' w ho=>?_⟩
   obtain ⟨v',g1,g2⟩:=maxA_sim (P:=P) (w:=w) (ts:=ts) (ty:=o.type) (hargs R ev' ho) h1
   exact ⟨_,by unfold execOp; simp only [hop]; simpa [resolve,invoke,builtin] using optVal g1,g2⟩
  ·obtain ⟨h1,rfl⟩:=withH_some hv
   refine ⟨rfl,fun R ev' w ho=>?_⟩
   obtain ⟨v',g1,g2⟩:=minA_sim (P:=P) (w:=w) (ts:=ts) (ty:=o.type) (hargs R ev' ho) h1
   exact ⟨_,by unfold execOp; simp only [hop]; simpa [resolve,invoke,builtin] using optVal g1,g2⟩
  ·simp [kindOf] at hk
  ·cases hv
 ·rename_i f args ts hop; rw [hop] at hk; simp [kindOf] at hk
 ·cases hv
end
end Go.AM
