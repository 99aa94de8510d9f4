/- An abstract machine for Go, part 41: slices.Sorted over maps.Keys, the keys being numbers. -/
import Derived.Test.YtjkcadbblgefdaaGreatDoorBml
import Derived.Below
import Derived.Lib.SlKeysI
namespace Go.AM
open Go.Proofs (encStr)
open Go.RowKit

section
variable {P : Program} {h : Heap}

def intV:Value→Int
  | .int _ s=>s
  | _=>0
/-- The keys of a map, which are numbers. -/
structure MapOkI (es:Array MapEntry) (ck:Nat) (ks:List Int):Prop where
  keys:es.toList.map (·.key)=ks.map encZ
  small:∀ s ∈ ks,(Lit.int .i64 s).wf=true
  apart:ks.Nodup
  born:∀ x ∈ es.toList,x.born < ck
  borns:(es.toList.map (·.born)).Nodup
  few:ks.length≤1000000
/-- Numbers in order. -/
def sortZ (ks:List Int):List Int:=ks.mergeSort leI
theorem sortZ_len (ks:List Int):(sortZ ks).length=ks.length:=by simp [sortZ]

theorem read_keysI {k:TypeId} (hk:P.underlying k=some (.int .i64)) {es:Array MapEntry} {ck:Nat} {ks:List Int} (m:MapOkI es ck ks):WideElems.Fit P k anyR es ck:=by
  refine ⟨?_,⟨m.born,m.borns,?_⟩,?_⟩
  · have:=congrArg List.length m.keys
    simp only [List.length_map,Array.length_toList] at this
    have:=m.few
    unfold maxLen
    omega
  · rw [m.keys]
    exact m.apart.map _ fun a b e=>by simpa [encZ] using e
  · intro x hx
    have hm:x.key ∈ es.toList.map (·.key):=List.mem_map_of_mem hx
    rw [m.keys] at hm
    obtain ⟨s,hs,e⟩:=List.mem_map.1 hm
    refine ⟨(.int .i64 s,.lit (.bool true)),?_⟩
    unfold WideElems.rd
    rw [← e]
    simp [encZ,keyOf,hk,mapKey,anyR,m.small s hs]
theorem perm_keysI {k:TypeId} (hk:P.underlying k=some (.int .i64)) {es:Array MapEntry} {ck:Nat} {ks:List Int} (m:MapOkI es ck ks) :
    (intKeys (H:=Unit) (.map ((es.toList.map (WideElems.rg P k anyR)).foldr DataW.insert []))).Perm ks:=by
  show (((es.toList.map (WideElems.rg P k anyR)).foldr DataW.insert []).map fun p=>Go.intOf p.1).Perm _
  refine ((WideShapes.sorted_perm _).map _).trans ?_
  rw [List.map_map]
  have e:es.toList.map ((fun p:Lit × DataW Unit=>Go.intOf p.1) ∘ WideElems.rg P k anyR)=(es.toList.map (·.key)).map fun v=>match v with | .int _ s=>s | _=>0:=by
    rw [List.map_map]
    refine List.map_congr_left fun x hx=>?_
    have hm:x.key ∈ es.toList.map (·.key):=List.mem_map_of_mem hx
    rw [m.keys] at hm
    obtain ⟨s,hs,e⟩:=List.mem_map.1 hm
    simp [WideElems.rg,WideElems.rd,← e,encZ,keyOf,hk,mapKey,anyR,m.small s hs,Go.intOf]
  rw [e,m.keys,List.map_map]
  exact List.Perm.of_eq (by
    conv=>rhs; rw [← List.map_id ks]
    exact List.map_congr_left fun s _=>rfl)

def zc (s:Int):Array Value:=#[.int .i64 s]
theorem zc_size (s:Int):(zc s).size=1:=rfl
theorem flat_zc (l:List Int):(flat zc l).toList=l.map (Value.int .i64):=by
  induction l with
  | nil=>rfl
  | cons a l ih=>simp [flat,zc,ih] at *
/-- slices.Sorted over maps.Keys: the keys in order. -/
theorem sorted_soundI {f g:FuncId} {k e t:TypeId} (hk:P.underlying k=some (.int .i64)) (hz:tsz P e=1)
    (hc:∀ (w:World) (Bm b nn:Nat) (D0:DataW Unit) (R:Value→Option (DataW Unit × List MemPlace)),w.cell? ⟨Bm,0,none⟩=some (.map (some b))→Bm < w.heap.size→w.ownsMap P k R b nn D0→Maps.size D0≤1000000 →
      Calls P f #[.func (.func g) #[] #[.pointer (some ⟨Bm,0,none⟩)]] w fun e' w'=>∃ (v:Value) (ss:List Int),e'=.returned v∧ss.Perm (intKeys D0)∧w'.ownsRow w.heap.size e 1 v ss.length ((ss.mergeSort leI).map encZ)∧(v=.slice none 0 0 ↔ ss=[])∧Below w.heap.size w w')
    {b r:Nat} {es:Array MapEntry} {ck:Nat} {ks:List Int} (hb:h[b]?=some (.cells #[.map (some r)] t (0,0))) (hr:h[r]?=some (.map es ck)) (m:MapOkI es ck ks) :
    ∃ v h1,SoundCall P f #[.func (.func g) #[] #[.pointer (some ⟨b,0,none⟩)]] h v h1∧OwnAt h1 e zc (sortZ ks) v∧Ext h h1∧∀ z,blk v z→h.size≤z:=by
  have base:∀ (R:Ren) (w:World) (args':Array Value),Rel P R (hget h) w→ArrR (VR R) #[.func (.func g) #[] #[.pointer (some ⟨b,0,none⟩)]] args' →
      Calls P f args' w fun e' w'=>∃ (v:Value) (ss:List Int),e'=.returned v∧ss.Perm (ks)∧w'.ownsRow w.heap.size e 1 v ss.length ((ss.mergeSort leI).map encZ)∧(v=.slice none 0 0 ↔ ss=[])∧Below w.heap.size w w':=by
    intro R w args' kr ha
    obtain ⟨x',rfl,hx⟩:=arr_one ha
    rw [VR_func] at hx
    obtain ⟨fn',a',c',rfl,h1,h2,h3⟩:=hx
    have e1:fn'=.func g:=h1
    have e2:a'=#[]:=Array.eq_empty_of_size_eq_zero h2.1
    subst e1; subst e2
    obtain ⟨p',rfl,hp⟩:=arr_one h3
    rw [VR_ptr] at hp
    obtain ⟨a,rfl,s1,s2,hp⟩:=hp
    have hm:R.map b=some a.block∧a.off=0:=by
      rcases hp with q | q
      · have:=(kr.dead b q).2
        simp only [hget,hb,deadRow] at this
        cases this
      · exact q
    obtain ⟨o,o',w1,w2,w3,_⟩:=kr.obj b a.block hm.1
    have w1':h[b]?=some o:=w1
    rw [hb] at w1'
    cases w1'
    obtain ⟨c',et,fr',rfl,w4,w5,_⟩:=w3
    obtain ⟨mv,w6,w7⟩:=w5 0 (.map (some r)) rfl
    rw [VR_map] at w7
    obtain ⟨r',rfl,hbr⟩:=w7
    obtain ⟨_,es',ck',q1,q2,_⟩:=kr.mapObj hbr hr
    have hkp:(es'.toList.map fun e=>intV e.key).Perm ks:=by
      have h1:=q2.perm.map intV
      rw [m.keys,List.map_map,List.map_map] at h1
      refine h1.trans (List.Perm.of_eq ?_)
      conv=>rhs; rw [← List.map_id ks]
      exact List.map_congr_left fun s _=>rfl
    have m':MapOkI es' ck' (es'.toList.map fun e=>intV e.key):=⟨by
      rw [List.map_map]
      refine List.map_congr_left fun e he=>?_
      obtain ⟨x,hx⟩:=q2.ints' e he
      simp only [Function.comp_apply,hx,intV,encZ],fun s hs=>m.small s (hkp.mem_iff.1 hs),hkp.nodup_iff.2 m.apart,q2.born,q2.borns,by rw [hkp.length_eq]; exact m.few⟩
    have ea:a=⟨a.block,0,none⟩:=by cases a; simp_all
    rw [ea]
    have hcell:w.cell? ⟨a.block,0,none⟩=some (.map (some r')):=by
      simp [World.cell?,w2,w6]
    have hlen:es'.size=ks.length:=by
      have:=hkp.length_eq
      simpa using this
    refine (hc w a.block r' es'.size _ anyR hcell (Array.getElem?_eq_some_iff.1 w2).1 ⟨es',ck',q1,read_keysI hk m',Nat.le_refl _,rfl⟩ ?_).mono ?_
    · show ((es'.toList.map (WideElems.rg P k anyR)).foldr DataW.insert []).length≤1000000
      rw [length_sorted,List.length_map,Array.length_toList,hlen]
      exact m.few
    · rintro e' w' ⟨v,ss,rfl,hp2,rest⟩
      exact ⟨v,ss,rfl,(hp2.trans (perm_keysI hk m')).trans hkp,rest⟩
  by_cases h0:ks=[]
  · subst h0
    refine ⟨.slice none 0 0,h,sound_of_calls fun R w args' kr ha=>(base R w args' kr ha).mono ?_,.inl ⟨rfl,by simp [sortZ]⟩,Ext.refl h,fun z hz=>hz.elim⟩
    rintro e' w' ⟨v,ss,rfl,hp,_,hn,hbel⟩
    have hss:ss=[]:=by simpa using hp
    refine ⟨R,.slice none 0 0,by rw [hn.2 hss],⟨⟨kr.inj,fun b g hb'=>?_,kr.dead,kr.glob⟩,.refl R,Nat.le_refl _,fun _ _ _=>rfl,fun _ _ e=>⟨e,rfl⟩,hbel.os,hbel.tape,hbel.output,hbel.size,fun g hg _=>hbel.block g hg,fun _ _ e=>.inl e,fun g hg _=>by rw [hbel.block g hg]; exact sameShape.refl _⟩,by simp⟩
    obtain ⟨o,o',h1',h2,h3⟩:=kr.obj b g hb'
    exact ⟨o,o',h1',(hbel.block g (kr.lt hb').2).trans h2,h3⟩
  · have hn0:sortZ ks ≠ []:=fun w=>h0 (List.eq_nil_of_length_eq_zero (by rw [← sortZ_len,w]; rfl))
    refine ⟨.slice (some ⟨h.size,0,none⟩) (sortZ ks).length (sortZ ks).length,h.push (.cells (flat zc (sortZ ks)) e (1,1)),sound_of_calls fun R w args' kr ha=>(base R w args' kr ha).mono ?_,.inr (.inr ⟨h.size,rfl,hn0,by simp⟩),Ext.push _ _,fun z hz=>by cases hz; exact Nat.le_refl _⟩
    rintro e' w' ⟨v,ss,rfl,hp,hrow,hn,hbel⟩
    have hsort:ss.mergeSort leI=sortZ ks:=mergeSort_of_perm_i hp
    have hlen:ss.length=(sortZ ks).length:=by rw [sortZ_len,hp.length_eq]
    rcases hrow.2 with ⟨_,hz0⟩ | ⟨gb,cap,cur,rfl,hbase,hgb,r1,r2,r3,r4⟩
    · exact absurd (List.eq_nil_of_length_eq_zero (hlen.symm.trans hz0)) hn0
    · rw [hsort,hlen] at r4
      have r4':cur.toList.take (sortZ ks).length=(sortZ ks).map (Value.int .i64):=by
        rw [Nat.mul_one] at r4
        rw [r4]
      have hcur:∀ i,i < (sortZ ks).length→cur[i]?=some (Value.int .i64 ((sortZ ks)[i]?.getD 0)):=by
        intro i hi
        have:=congrArg (fun l:List Value=>l[i]?) r4'
        simp only [List.getElem?_take,if_pos hi,List.getElem?_map,Array.getElem?_toList] at this
        rw [this,List.getElem?_eq_getElem hi]
        rfl
      have hfl:∀ i v,(flat zc (sortZ ks))[i]?=some v→i < (sortZ ks).length∧v=Value.int .i64 ((sortZ ks)[i]?.getD 0):=by
        intro i v hv
        rw [← Array.getElem?_toList,flat_zc,List.getElem?_map] at hv
        cases hq:(sortZ ks)[i]? with
        | none=>rw [hq] at hv; cases hv
        | some s=>rw [hq] at hv; cases hv; exact ⟨(List.getElem?_eq_some_iff.1 hq).1,rfl⟩
      have hsz:(flat zc (sortZ ks)).size=(sortZ ks).length:=by rw [flat_size zc_size,Nat.mul_one]
      refine ⟨R.bind h.size gb (some (1,cur.size)),_,rfl,Sim.bindNew kr (o':=.cells cur e (0,0)) ⟨rfl,fun z q hq=>?_⟩ (fun x hx=>by have:=(kr.lt hx).2; omega) hgb (fun x y hx=>hbel.block y (kr.lt hx).2) ⟨cur,e,(0,0),rfl,by rw [hsz]; omega,fun i v hv=>?_,fun i hi=>?_⟩
        hbel.os hbel.tape hbel.output hbel.size (fun x hx _=>hbel.block x hx) hbase,?_⟩
      · cases hq
        exact ⟨⟨_,_,rfl,hz.symm⟩,cur,e,(0,0),rfl,rfl,fun i hi=>by simp [inFr]⟩
      · obtain ⟨w1,rfl⟩:=hfl i v hv
        exact ⟨_,hcur i w1,by rw [VR_int]⟩
      · simp [inFr]; omega
      · rw [VR_slice,hlen]
        refine ⟨⟨gb,0,none⟩,cap,rfl,.inl ⟨⟨rfl,rfl,.inr ⟨by simp [Ren.bind],.inl rfl⟩⟩,.inr (.inl ⟨1,cur.size,by simp [Ren.bind],fun w=>hn0 (List.eq_nil_of_length_eq_zero w.1),by rw [← hlen]; omega,by simp only [Nat.zero_add]; omega⟩)⟩⟩
end
theorem sortZ_of_perm {ks ls:List Int} (hp:ks.Perm ls) (hs:ls.Pairwise fun a b=>a < b):sortZ ks=ls:=by
  unfold sortZ
  rw [mergeSort_of_perm_i hp,List.mergeSort_of_pairwise]
  exact hs.imp fun {a b} h=>decide_eq_true (Int.le_of_lt h)

section
variable {α : Type} {P : Program} {h : Heap} {vf : α → Value}
/-- slices.Sorted over maps.Keys. -/
theorem MapAt.sortedI {f g:FuncId} {k e t:TypeId} (hk:P.underlying k=some (.int .i64)) (hz:tsz P e=1)
    (hc:∀ (w:World) (Bm b nn:Nat) (D0:DataW Unit) (R:Value→Option (DataW Unit × List MemPlace)),w.cell? ⟨Bm,0,none⟩=some (.map (some b))→Bm < w.heap.size→w.ownsMap P k R b nn D0→Maps.size D0≤1000000 →
      Calls P f #[.func (.func g) #[] #[.pointer (some ⟨Bm,0,none⟩)]] w fun e' w'=>∃ (v:Value) (ss:List Int),e'=.returned v∧ss.Perm (intKeys D0)∧w'.ownsRow w.heap.size e 1 v ss.length ((ss.mergeSort leI).map encZ)∧(v=.slice none 0 0 ↔ ss=[])∧Below w.heap.size w w')
    {b r:Nat} {m:List (Int × α)} (hb:h[b]?=some (.cells #[.map (some r)] t (0,0))) (hm:MapAt h (Value.int .i64) vf r m)
    (hs:(m.map (·.1)).Pairwise fun a b=>a < b) (small:∀ p ∈ m,-9223372036854775808≤p.1∧p.1≤9223372036854775807) (few:m.length≤1000000) :
    ∃ v h1,SoundCall P f #[.func (.func g) #[] #[.pointer (some ⟨b,0,none⟩)]] h v h1∧OwnAt h1 e zc (m.map (·.1)) v∧Ext h h1∧∀ z,blk v z→h.size≤z:=by
  obtain ⟨es,ck,hr,M⟩:=hm
  have hp:(es.toList.map fun e=>intV e.key).Perm (m.map (·.1)):=by
    have:=M.perm.map fun q:Value × Value=>intV q.1
    rw [List.map_map,List.map_map] at this
    exact this
  have ok:MapOkI es ck (es.toList.map fun e=>intV e.key):=by
    refine ⟨?_,?_,?_,M.born,M.borns,?_⟩
    · rw [List.map_map]
      refine List.map_congr_left fun x hx=>?_
      obtain ⟨p,_,q,_⟩:=M.keyed x hx
      simp only [Function.comp_apply,q,intV]
    · intro s hs
      have:=hp.mem_iff.1 hs
      obtain ⟨p,hp,rfl⟩:=List.mem_map.1 this
      have q:=small p hp
      simp only [Lit.wf,decide_eq_true_eq,Bool.and_eq_true,IntKind.min,IntKind.max,IntKind.signed,IntKind.bits]
      simpa [IntKind.min,IntKind.max,IntKind.signed,IntKind.bits] using q
    · exact hp.nodup_iff.2 M.apart
    · rw [hp.length_eq,List.length_map]; exact few
  have q:=sorted_soundI (P:=P) (h:=h) hk hz hc hb hr ok
  rw [sortZ_of_perm hp hs] at q
  exact q
end
end Go.AM
