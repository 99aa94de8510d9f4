/- An abstract machine for Go, part 23: a call that leads to nothing old can be run by itself; what a law's form asks behind a call that turns nothing old. -/
import Derived.Test.YtjkcadbblgefdaaGreatDoorAmv
import Derived.ChangeSame
import Derived.Carry
import Derived.ProofKit
import Derived.OpenShut
namespace Go.AM
open Go.RowKit

section
variable {P : Program}

/-- The same where there are program's variables that the call does not read. -/
theorem closed_dead' {f:FuncId} {args:Array Value} {v:Value} {hA h1:Heap} (hs:SoundCall P f args hA v h1) (ha:∀ x ∈ args,flatV x=true) (hve:∀ (R:Ren) (v':Value),VR R v v'→v'=v) (hvr:∀ R:Ren,VR R v v) (h:Heap) (hG:∀ g ∈ globList,hA[g]?=some deadRow):SoundCall P f args h v h:=by
  intro R w args' k hargs Q hq n ro
  have hold:∀ (i:Nat) (x x':Value),args[i]?=some x→args'[i]?=some x'→x'=x:=fun i x x' hx hx' =>
    flatV_eq (ha x (Array.mem_of_getElem? hx)) (hargs.2 i x x' hx hx')
  have hrel:Rel P ⟨fun _=>none,fun _=>none,fun b=>decide (b ∈ globList),fun _=>none⟩ (hget hA) w:=⟨fun b b' g e=>(by cases e),fun b g e=>(by cases e),fun b e=>⟨rfl,hG b (of_decide_eq_true e)⟩,fun g hg=>.inl (decide_eq_true hg)⟩
  refine hs ⟨fun _=>none,fun _=>none,fun b=>decide (b ∈ globList),fun _=>none⟩ w args' hrel ⟨hargs.1,fun i x x' hx hx'=>?_⟩ Q (fun R1 w1 v' s hv'=>?_) n ro
  · rw [hold i x x' hx hx']
    exact flatV_VR (ha x (Array.mem_of_getElem? hx))
  · have hconc:∀ g,g < w.heap.size→w1.heap[g]?=w.heap[g]?:=fun g hg=>s.conc g hg fun b e=>by cases e
    rw [hve _ _ hv']
    refine hq R w1 v ⟨⟨k.inj,fun b g hb=>?_,k.dead,k.glob⟩,.refl R,Nat.le_refl _,fun _ _ _=>rfl,fun _ _ e=>⟨e,rfl⟩,s.os,s.tape,s.output,s.wsz,fun g hg _=>hconc g hg,fun _ _ e=>.inl e,fun g hg _=>by rw [hconc g hg]; exact sameShape.refl _⟩ (hvr _)
    obtain ⟨o,o',h1',h2,h3⟩:=k.obj b g hb
    exact ⟨o,o',h1',(hconc g (k.lt hb).2).trans h2,h3⟩
theorem closed_dead2 {f:FuncId} {args:Array Value} {a b:Value} {hA h1:Heap} (hs:SoundCall P f args hA (.tuple #[a,b]) h1) (ha:∀ x ∈ args,flatV x=true) (hva:flatV a=true) (hvb:flatV b=true) (h:Heap) (hG:∀ g ∈ globList,hA[g]?=some deadRow):SoundCall P f args h (.tuple #[a,b]) h:=by
  refine closed_dead' hs ha (fun R v' q=>?_) (fun R=>VR_tuple2 (flatV_VR hva) (flatV_VR hvb)) h hG
  rw [VR_tuple] at q
  obtain ⟨vs,rfl,h1,h2⟩:=q
  congr 1
  apply Array.ext
  · exact h1
  · intro i hi hi'
    have hi2:i < 2:=hi'
    rcases (show i=0 ∨ i=1 by omega) with e | e
    · subst e; exact flatV_eq hva (h2 0 a _ rfl (by simp [hi]))
    · subst e; exact flatV_eq hvb (h2 1 b _ rfl (by simp [hi]))
end

section
variable {H : Type} {enc : TypeId × Value → H} {P : Program}

theorem trodAll_below (hl:laidOutB P=true) {W W':World} (hb:Below W.heap.size W W') {sp:Nat→Bool}:∀ (ts:List TypeId) (vs:List Value) (ds:List (DataW H)) (ps:List MemPlace),
    (∀ t ∈ ts,P.readableRec t=true∧t < P.types.size)→DataW.TrodAll enc P W 0 (fun _=>true) true ts vs ds ps→(∀ p ∈ ps,p.block < W.heap.size)→(∀ p ∈ ps,sp p.block=true) →
    DataW.TrodAll enc P W' 0 sp true ts vs ds ps
  | [],vs,ds,ps,_,h,_,_=>by
    cases vs <;> cases ds <;> simp [DataW.TrodAll] at h ⊢
    exact h
  | t :: ts,vs,ds,ps,hr,h,hlt,hsp=>by
    obtain ⟨v,vs',d,ds',p,q,rfl,rfl,rfl,h1,h2⟩:=Go.ChangeShapes.trodAll_cons h
    refine ⟨p,q,?_,trodAll_below hl hb ts vs' ds' q (fun t ht=>hr t (by simp [ht])) h2 (fun x hx=>hlt x (by simp [hx])) (fun x hx=>hsp x (by simp [hx])),rfl⟩
    obtain ⟨r1,r2⟩:=hr t (by simp)
    exact WideElems.Trod_stays hl r1 r2 h1 (fun x hx=>hb.same (hlt x (by simp [hx]))) (fun x hx=>hsp x (by simp [hx]))

theorem post_of_old {f:Func} {s:ChangeSpec} {apart fresh handsOn again:Bool} {W W':World} {args:Array Value} {v:Value} {ds gs:List (DataW H)} {before pa pv:List MemPlace}
    (hW:DataW.Whole enc P f.params.toList s.vars apart W args.toList ds gs before)
    (hres:∀ (b:Nat) (sp:Nat→Bool) (hd:Bool),DataW.TrodAll enc P W' b sp hd f.resultTypes.toList (v.resultList f.resultTypes.size) (s.fn H (ds++gs)).results [])
    (hargs:∀ sp:Nat→Bool,(∀ p ∈ before,sp p.block=true)→DataW.TrodAll enc P W' 0 sp true f.params.toList args.toList (s.fn H (ds++gs)).args pa)
    (hvars:∀ sp:Nat→Bool,(∀ p ∈ before,sp p.block=true)→DataW.TrodVars enc P W' sp s.vars (s.fn H (ds++gs)).vars pv)
    (hps:before=pa++pv) (hk:W.keptBut W' (· ∈ before)) (hfz:∀ b off,MemPlace.cell b off ∈ before→W'.frozen? ⟨b,off,none⟩=W.frozen? ⟨b,off,none⟩)
    (hok:∀ (j:Nat) (t:TypeId) (r:Value),f.resultTypes[j]?=some t→(v.resultList f.resultTypes.size)[j]?=some r→Value.okWide P W' .any 0 t r) :
    s.post enc P f apart fresh handsOn again W args v W':=by
  have hold:∀ p ∈ before,(fun b=>decide (b < W.heap.size)) p.block=true:=fun p hp=>by simpa using hW.lt p hp
  refine ⟨ds,gs,before,[],pa,pv,hW,hres _ _ _,hargs _ hold,hvars _ hold,World.keptBut_mono (fun p hp=>⟨hp,?_⟩) hk,fun _=>?_⟩
  · rw [hps,List.mem_append] at hp
    exact Or.inr hp
  · obtain ⟨_,_,_,_,_,hz,hn⟩:=hW
    refine ⟨hok,_,_,([]++pa)++pv,⟨[]++pa,pv,Go.ChangeShapes.trodAll_append (hargs _ (fun _ _=>rfl)) (hres _ _ _),hvars _ (fun _ _=>rfl),rfl,?_,?_⟩,?_⟩
    · intro b off hp
      have hp':MemPlace.cell b off ∈ before:=by rw [hps]; simpa using hp
      rw [hfz b off hp']
      exact hz b off hp'
    · intro ha
      have:=hn ha
      rw [hps] at this
      simpa using this
    · intro p hp _
      rw [hps]
      simpa using hp

/-- What a law's form asks where nothing old was turned. -/
theorem law_post {fn:Func} {s:ChangeSpec} {apart fresh handsOn again:Bool} {W W':World} {args:Array Value} {ds gs:List (DataW H)} {before:List MemPlace} {tb:TypeId}
    (hW:DataW.Whole enc P fn.params.toList s.vars apart W args.toList ds gs before) (hvars:s.vars=[]) (hres:fn.resultTypes=#[tb]) (hb:P.underlying tb=some .bool)
    (hfn:s.fn H (ds++gs)={ results:=[.lit (.bool true)],args:=ds }) (hl:laidOutB P=true) (hr:∀ t ∈ fn.params.toList,P.readableRec t=true∧t < P.types.size)
    (hbel:Below W.heap.size W W'):s.post enc P fn apart fresh handsOn again W args (.bool true) W':=by
  have hlt:=hW.lt
  have hW':=hW
  obtain ⟨p,q,hA,hV,rfl,hfz,hnd⟩:=hW
  rw [hvars] at hV
  obtain ⟨rfl,rfl⟩:=Go.ChangeShapes.trodVars_none hV
  simp only [List.append_nil] at hW' hlt hfn ⊢
  refine post_of_old (pa:=p) (pv:=[]) hW' (fun b sp hd=>?_) (fun sp hsp=>?_) (fun sp _=>?_) (by simp) (hbel.frame _) (fun b off hp=>hbel.frozen (hlt _ hp)) ?_
  · simp only [List.append_nil]
    rw [hfn,hres]
    exact Go.ChangeShapes.trodAll_mk1 (shut_bool hb _)
  · simp only [List.append_nil]
    rw [hfn]
    exact trodAll_below hl hbel _ _ _ _ hr hA hlt hsp
  · simp only [List.append_nil]
    rw [hfn,hvars]
    rfl
  · exact ok_one hres rfl (okWide_bool_mk hb _)
end
end Go.AM
