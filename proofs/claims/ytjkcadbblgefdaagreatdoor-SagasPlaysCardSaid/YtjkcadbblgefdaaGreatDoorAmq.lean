/- An abstract machine for Go, part 17: laying a block and reading, apart from the heap in which the text lays or reads. -/
import Derived.Test.YtjkcadbblgefdaaGreatDoorAmp
namespace Go.AM

section
variable {P : Program} {R R' : Ren} {h h' g : Heap} {w w' : World}

/-- One new block, whatever else there is. -/
def AllocSim (P:Program) (R:Ren) (w:World) (s:Sem Value) (v:Value) (b:Nat) (ob:Obj):Prop :=
 ∃ v' o',s.run P w=.ok v' (w.alloc o')∧ObjR R ob o'∧SlackOk P none ob o'∧∀ R':Ren,R'.map b=some w.heap.size→VR R' v v'

theorem newRow_run (t:TypeId) (cs:Array Value):(newRow t cs).run P w=.ok ⟨w.heap.size,0,none⟩ (w.alloc (.cells cs t (0,0))):=by
 simp [newRow,run_newObj_alloc]

theorem slackNone (cs cs':Array Value) (t t':TypeId):SlackOk P none (.cells cs t (0,0)) (.cells cs' t' (0,0)):=⟨by simp [isSlack],fun z r e=>by cases e⟩

theorem alloc_as {t:TypeId} {z:Value} (hz:zeroA P t=some z) (old:Value) (b:Nat) :
  AllocSim P R w (Instr.alloc t true old) (.pointer (some ⟨b,0,none⟩)) b (.cells z.cells t (0,0)):=by
 obtain ⟨h1,h2,_⟩:=zeroA_run (P:=P) (R:=R) (w:=w) hz
 refine ⟨.pointer (some ⟨w.heap.size,0,none⟩),_,?_,ObjR_cells h2.cells t t (0,0),slackNone _ _ _ _,fun R' hm=>by rw [VR_ptr]; exact ⟨_,rfl,rfl,rfl,.inr ⟨hm,rfl⟩⟩⟩
 simp [Instr.alloc,h1,newVar,newRow_run]

theorem box_as {t:TypeId} {v v':Value} (hv:VR R v v') (b:Nat) :
  AllocSim P R w (Instr.box t v') (.pointer (some ⟨b,0,none⟩)) b (.cells v.cells t (0,0)):=by
 refine ⟨.pointer (some ⟨w.heap.size,0,none⟩),_,?_,ObjR_cells hv.cells t t (0,0),slackNone _ _ _ _,fun R' hm=>by rw [VR_ptr]; exact ⟨_,rfl,rfl,rfl,.inr ⟨hm,rfl⟩⟩⟩
 simp [Instr.box,newVar,newRow_run]

theorem makeMap_as (t:TypeId) (b:Nat):AllocSim P R w (Instr.makeMap t none) (.map (some b)) b (.map #[] 0):=by
 refine ⟨.map (some w.heap.size),.map #[] 0,?_,⟨#[],0,rfl,⟨by simp,by simp,by simp,by simp,by simp,by simp⟩⟩,⟨by simp [isSlack],fun z r e=>by cases e⟩,fun R' hm=>by rw [VR_map]; exact ⟨_,rfl,.inr hm⟩⟩
 simp [Instr.makeMap,run_newObj_alloc]

theorem bslice_as {t:TypeId} {len:Nat} {ev ev':Operand→Value} {ps:Array (Nat × Operand)} (hp:∀ p ∈ ps,VR R (ev p.2) (ev' p.2)) {cs:Array Value} {e:TypeId}
  (hz0:∀ z,zeroA P e=some z→0 < z.cells.size) (hb:bslice P t len (ps.map fun (i,x)=>(i,ev x)).toList=some (cs,e)) (b:Nat) :
  AllocSim P R w (Instr.buildSlice t len (ps.map fun (i,x)=>(i,ev' x))) (.slice (some ⟨b,0,none⟩) len len) b (.cells cs e (0,0)):=by
 unfold bslice at hb
 split at hb
 ·rename_i e0 hu
  split at hb
  ·rename_i i hi
   split at hb
   ·cases hb
   ·rename_i hbig
    split at hb
    ·rename_i z hz
     simp only [Option.map_eq_some_iff,Prod.mk.injEq] at hb
     obtain ⟨cs0,hf,rfl,rfl⟩:=hb
     have hzz:ArrR (VR R) z z∧(len * i.size ≠ 0→0 < z.size)∧(do (if len * i.size=0 then pure #[] else do pure (← zeroValue e0).cells):Sem (Array Value)).run P w=.ok z w:=by
      split at hz
      ·rename_i h0; cases hz; exact ⟨ArrR.empty _,fun hh=>absurd h0 hh,by simp [h0]⟩
      ·rename_i h0
       simp only [Option.map_eq_some_iff] at hz
       obtain ⟨z0,hz1,rfl⟩:=hz
       obtain ⟨g1,g2,_⟩:=zeroA_run (P:=P) (R:=R) (w:=w) hz1
       exact ⟨g2.cells,fun _=>hz0 _ hz1,by simp [h0,g1]⟩
     simp only [Array.toList_map] at hf
     obtain ⟨cs',hf',hc⟩:=fill_rel (R:=R) (ev:=ev) (ev':=ev') ps.toList _ _ _ (fun p hq=>hp p (by simpa using hq)) (zrow_rel hzz.1 (len * i.size) hzz.2.1) hf
     refine ⟨.slice (some ⟨w.heap.size,0,none⟩) len len,.cells cs' e0 (0,0),?_,ObjR_cells hc e0 e0 (0,0),slackNone _ _ _ _,fun R' hm=>?_⟩
     ·have g1:=newRow_run (P:=P) (w:=w) e0 cs'
      have hf'':Instr.fill (fun i_1=>some (i_1 * i.size,i.size)) (Array.map (fun x=>z[x % z.size]!) (Array.range (len * i.size))) (Array.map (fun x=>match x with | (i,x)=>(i,ev' x)) ps).toList=some cs':=by
       simp only [Array.toList_map]; exact hf'
      have hs:(sizeOf e0).run P w=.ok i.size w:=by simp [sizeOf,typeInfo,hi]
      have hbig':¬ 16777216 < len * i.size:=by simpa using hbig
      by_cases h0:len * i.size=0
      ·rw [if_pos h0] at hz; cases hz
       rw [h0] at hf''
       simp at hf''
       simp [Instr.buildSlice,run_underlying hu,hs,h0,hf'',g1]
      ·rw [if_neg h0] at hz
       simp only [Option.map_eq_some_iff] at hz
       obtain ⟨z0,hz1,rfl⟩:=hz
       obtain ⟨q1,_,_⟩:=zeroA_run (P:=P) (R:=R) (w:=w) hz1
       simp at hf''
       simp [Instr.buildSlice,run_underlying hu,hs,h0,hbig',hf'',g1,q1]
     ·rw [VR_slice]
      exact ⟨_,_,rfl,.inl ⟨⟨rfl,rfl,.inr ⟨hm,.inl rfl⟩⟩,.inl rfl⟩⟩
    ·cases hb
  ·cases hb
 ·cases hb

theorem makeSliceA_as {t:TypeId} {l l' c c' v:Value} (hl:VR R l l') (hc:VR R c c') (hv:makeSliceA P h t l c=some (v,h')) :
  ∃ ob,h'=h.push ob∧AllocSim P R w (Instr.makeSlice t l' c') v h.size ob:=by
 unfold makeSliceA at hv
 split at hv
 ·rename_i e k1 l k2 c hu
  rw [VR_int] at hl hc
  subst hl hc
  split at hv
  ·rename_i i z hi hz
   split at hv
   ·rename_i hb
    obtain ⟨b1,b2,b3,b4,b5,b6⟩:=hb
    cases hv
    obtain ⟨g1,g2,_⟩:=zeroA_run (P:=P) (R:=R) (w:=w) hz
    refine ⟨_,rfl,.slice (some ⟨w.heap.size,0,none⟩) l.toNat c.toNat,_,?_,ObjR_cells (zrow_rel g2.cells (c.toNat * i.size) (fun _=>by omega)) e e (0,0),slackNone _ _ _ _,fun R' hm=>?_⟩
    ·have q1:=newRow_run (P:=P) (w:=w) e ((Array.range (c.toNat * i.size)).map (z.cells[· % z.cells.size]!))
     have w1:=wrap_id (n:=l) (by omega) (by omega)
     have w2:=wrap_id (n:=c) (by omega) (by omega)
     have c1:¬ (c < 0):=by omega
     have c2:¬ (281474976710656 < (i.bytes:Int) * c):=by omega
     have c3:¬ (l < 0):=by omega
     have c4:¬ (c < l):=by omega
     by_cases h0:c.toNat * i.size=0
     ·have h00:c.toNat=0:=by
       rcases Nat.mul_eq_zero.1 h0 with q | q
       ·exact q
       ·exact absurd q b6
      have hc0:c=0:=by omega
      subst hc0
      have hl0:l=0:=by omega
      subst hl0
      have e0:Array.range 0=#[]:=rfl
      simp [e0] at q1
      simp [Instr.makeSlice,run_underlying hu,asInt,asIntOf,sizeOf,typeInfo,hi,w1,q1,e0]
     ·have h00:¬ (c.toNat=0):=fun q=>h0 (by rw [q]; simp)
      have h01:¬ (c≤0):=by omega
      simp [Instr.makeSlice,run_underlying hu,asInt,asIntOf,sizeOf,typeInfo,hi,w1,w2,c1,c2,c3,c4,g1,q1,h01,b6]
      intro q; exact absurd q h0
    ·rw [VR_slice]
     exact ⟨_,_,rfl,.inl ⟨⟨rfl,rfl,.inr ⟨hm,.inl rfl⟩⟩,.inl rfl⟩⟩
   ·cases hv
  ·cases hv
 ·cases hv

/-- What lays one block. -/
theorem alloc_val {ev:Operand→Value} {o:Oper} {v:Value} (hk:kindOf P o.op=1) (hv:amOp P ev o h=some (v,h')) :
  ∃ ob,h'=h.push ob∧∀ (R:Ren) (ev':Operand→Value) (w:World),(∀ x ∈ o.op.operands,VR R (ev x) (ev' x)) →
   ∃ v' o',(execOp ev' o).run P w=.ok (.value v') (w.alloc o')∧ObjR R ob o'∧SlackOk P none ob o'∧∀ R':Ren,R'.map h.size=some w.heap.size→VR R' v v':=by
 have lift:∀ {s:Sem Value} {R:Ren} {w:World} {v:Value} {b:Nat} {ob:Obj},AllocSim P R w s v b ob→∃ v' o',(do pure (Next.value (← s)):Sem Next).run P w=.ok (.value v') (w.alloc o')∧ObjR R ob o'∧SlackOk P none ob o'∧∀ R':Ren,R'.map b=some w.heap.size→VR R' v v':=by
  rintro s R w v b ob ⟨v',o',h1,h2,h3,h4⟩
  exact ⟨v',o',by simp [h1],h2,h3,h4⟩
 unfold amOp at hv
 split at hv
 case h_4 =>
  rename_i t hop
  simp only [Option.map_eq_some_iff,Prod.mk.injEq] at hv
  obtain ⟨z,hz,rfl,rfl⟩:=hv
  refine ⟨_,rfl,fun R ev' w ho=>?_⟩
  unfold execOp; simp only [hop]
  exact lift (alloc_as hz _ _)
 case h_5 =>
  rename_i t x hop
  cases hv
  refine ⟨_,rfl,fun R ev' w ho=>?_⟩
  unfold execOp; simp only [hop]
  exact lift (box_as (ho x (by simp [hop,Op.operands])) _)
 case h_7 =>
  rename_i t len ps hop
  split at hv
  ·rename_i e0 hu
   split at hv
   ·rename_i z hz
    split at hv
    ·rename_i hpos
     simp only [Option.map_eq_some_iff,Prod.mk.injEq] at hv
     obtain ⟨⟨cs,e⟩,hb,rfl,rfl⟩:=hv
     refine ⟨_,rfl,fun R ev' w ho=>?_⟩
     unfold execOp; simp only [hop]
     have hee:e=e0:=by
      unfold bslice at hb
      rw [hu] at hb
      simp only at hb
      split at hb
      ·split at hb
       ·cases hb
       ·split at hb
        ·simp only [Option.map_eq_some_iff,Prod.mk.injEq] at hb
         obtain ⟨_,_,_,q⟩:=hb; exact q.symm
        ·cases hb
      ·cases hb
     subst hee
     refine lift (bslice_as (ev:=ev) (fun p hp=>ho p.2 ?_) (fun z' hz'=>by rw [hz] at hz'; cases hz'; exact hpos) hb _)
     simp only [hop,Op.operands,List.mem_toArray,List.mem_map,Array.mem_toList_iff]
     exact ⟨p,hp,rfl⟩
    ·cases hv
   ·cases hv
  ·cases hv
 case h_15 =>
  rename_i t hop
  cases hv
  refine ⟨_,rfl,fun R ev' w ho=>?_⟩
  unfold execOp; simp only [hop]
  exact lift (makeMap_as t _)
 case h_16 =>
  rename_i t l c hop
  obtain ⟨ob,e,_⟩:=makeSliceA_as (R:=⟨fun _=>none,fun _=>none,fun _=>true,fun _=>none⟩) (w:=default) (l':=ev l) (c':=ev c) (by
   unfold makeSliceA at hv
   split at hv
   ·rename_i h1 h2; rw [h1]; simp
   ·cases hv) (by
   unfold makeSliceA at hv
   split at hv
   ·rename_i h1 h2; rw [h2]; simp
   ·cases hv) hv
  refine ⟨ob,e,fun R ev' w ho=>?_⟩
  obtain ⟨ob',e',q⟩:=makeSliceA_as (R:=R) (w:=w) (ho l (by simp [hop,Op.operands])) (ho c (by simp [hop,Op.operands])) hv
  have:ob'=ob:=by
   rw [e] at e'
   exact (Array.push_inj_right.1 e').symm
  subst this
  unfold execOp; simp only [hop]
  exact lift q
 all_goals first
  | (rename_i hop; rw [hop] at hk; simp [kindOf] at hk; done)
  | (rename_i hop; rw [hop] at hk; unfold kindOf at hk; (repeat' split at hk) <;> simp_all; done)
  | (cases hv; done)

/-! ### reading -/
def Ext (h g:Heap):Prop:=∀ (b:Nat) (o:Obj),h[b]?=some o→g[b]?=some o

theorem Ext.refl (h:Heap):Ext h h:=fun _ _ e=>e
theorem Ext.trans {h g k:Heap} (a:Ext h g) (b:Ext g k):Ext h k:=fun x o e=>b x o (a x o e)
theorem Ext.push (h:Heap) (o:Obj):Ext h (h.push o):=fun b x e=>by
 have:=(Array.getElem?_eq_some_iff.1 e).1
 rw [Array.getElem?_push,if_neg (by omega)]; exact e
theorem Ext.size {h g:Heap} (a:Ext h g):h.size≤g.size:=by
 rcases Nat.eq_zero_or_pos h.size with e | e
 ·omega
 ·have:=a (h.size - 1) _ (Array.getElem?_eq_getElem (by omega))
  have:=(Array.getElem?_eq_some_iff.1 this).1
  omega

theorem loadN_mono (he:Ext h g) {a:Addr} {n:Nat} {c:Array Value} (hl:loadN h a n=some c):loadN g a n=some c:=by
 unfold loadN at hl ⊢
 split at hl
 ·rename_i heq; rw [he _ _ heq]; exact hl
 ·cases hl

theorem loadT_mono (he:Ext h g) {t:TypeId} {p v:Value} (hl:loadT P h t p=some v):loadT P g t p=some v:=by
 unfold loadT at hl ⊢
 split at hl
 ·split at hl
  ·split at hl
   ·rename_i hi
    simp only [Option.map_eq_some_iff] at hl ⊢
    obtain ⟨c,h1,h2⟩:=hl
    exact ⟨c,loadN_mono he h1,h2⟩
   ·cases hl
  ·simp only [Option.bind_eq_some_iff] at hl ⊢
   obtain ⟨c,h1,h2⟩:=hl
   exact ⟨c,loadN_mono he h1,h2⟩
  ·cases hl
 ·cases hl

theorem entriesA_mono (he:Ext h g) {x:Value} {es:Array MapEntry} (hl:entriesA h x=some es):entriesA g x=some es:=by
 unfold entriesA at hl ⊢
 split at hl
 ·exact hl
 ·split at hl
  ·rename_i heq; rw [he _ _ heq]; exact hl
  ·cases hl
 ·cases hl

theorem lookupA_mono (he:Ext h g) {t:TypeId} {x key v:Value} {ok:Bool} (hl:lookupA P h t x key ok=some v):lookupA P g t x key ok=some v:=by
 unfold lookupA at hl ⊢
 split at hl
 ·split at hl
  ·rename_i hc
   rw [if_pos hc]
   split at hl
   ·rename_i es hes
    rw [entriesA_mono he hes]; exact hl
   ·cases hl
  ·cases hl
 ·cases hl

theorem sliceA_mono (he:Ext h g) {t:TypeId} {x v:Value} {lo hi mx:Option Value} (hl:sliceA P h t x lo hi mx=some v):sliceA P g t x lo hi mx=some v:=by
 unfold sliceA at hl ⊢
 split at hl
 ·exact hl
 ·exact hl
 ·rename_i e a n c hu
  split at hl
  ·rename_i i hi
   split at hl
   ·cases hl
   ·rename_i hd
    have hd':i.size ≠ 0∧deadAt h a.block=false:=by simpa using hd
    have hb:deadAt g a.block=deadAt h a.block∧slackElem g a.block=slackElem h a.block:=by
     cases ho:h[a.block]? with
     | none=>have:=hd'.2; simp [deadAt,ho] at this
     | some o=>simp [deadAt,slackElem,ho,he _ _ ho]
    simp only [hb.1,hb.2]
    rw [if_neg hd]
    exact hl
  ·cases hl
 ·cases hl

theorem bytesStrA_mono (he:Ext h g) {s d:TypeId} {x v:Value} (hl:bytesStrA P h s d x=some v):bytesStrA P g s d x=some v:=by
 unfold bytesStrA at hl ⊢
 split at hl
 ·split at hl
  ·rename_i hb
   simp only [hb,Option.map_eq_some_iff,Option.bind_eq_some_iff] at hl ⊢
   obtain ⟨ns,⟨c,h1,h2⟩,h3⟩:=hl
   exact ⟨ns,⟨c,loadN_mono he h1,h2⟩,h3⟩
  ·cases hl
 ·exact hl
 ·cases hl

theorem lenA_mono (he:Ext h g) {t:TypeId} {x v:Value} (hl:lenA P h t x=some v):lenA P g t x=some v:=by
 unfold lenA at hl ⊢
 split at hl
 ·exact hl
 ·exact hl
 ·exact hl
 ·exact hl
 ·split at hl
  ·rename_i heq; rw [he _ _ heq]; exact hl
  ·cases hl
 ·cases hl

/-- A reading stays what it is while blocks are laid. -/
theorem read_mono {ev:Operand→Value} {o:Oper} {v:Value} (hk:kindOf P o.op=2) (he:Ext h g) (hv:amOp P ev o h=some (v,h')) :
  h'=h∧amOp P ev o g=some (v,g):=by
 have wh:∀ {x:Option Value} {y:Option Value},withH h x=some (v,h')→(x=some v→y=some v)→h'=h∧withH g y=some (v,g):=by
  intro x y e f
  obtain ⟨h1,rfl⟩:=withH_some e
  exact ⟨rfl,by rw [f h1]; rfl⟩
 unfold amOp at hv ⊢
 split at hv
 case h_8=>exact wh hv (loadT_mono he)
 case h_13 =>
  split at hv
  ·rename_i hop _ hc
   cases hv
   exact ⟨rfl,rfl⟩
  ·exact wh hv (bytesStrA_mono he)
 case h_17=>exact wh hv (sliceA_mono he)
 case h_22=>exact wh hv (lookupA_mono he)
 case h_30 =>
  unfold builtinA at hv ⊢
  split at hv
  ·split at hv
   ·exact wh hv (lenA_mono he)
   ·cases hv
  all_goals first
   | (rename_i hop; rw [hop] at hk; simp [kindOf] at hk; done)
   | (cases hv; done)
 all_goals first
  | (rename_i hop; rw [hop] at hk; simp [kindOf] at hk; done)
  | (rename_i hop; rw [hop] at hk; unfold kindOf at hk; (repeat' split at hk) <;> simp_all; done)
  | (cases hv; done)
end
end Go.AM
