/- An abstract machine for Go, part 38: maps that hold the pairs of a list. -/
import Derived.Test.YtjkcadbblgefdaaGreatDoorBmk
namespace Go.AM

/-! ### rows that are no rows of loops -/
def isData:Obj→Bool
  | .cells ..=>true
  | .map ..=>true
  | _=>false
def Data (h:Heap) (O:Nat→Prop):Prop:=∀ b,O b→∃ r,h[b]?=some r∧isData r=true
section
variable {h h1 : Heap} {O : Nat → Prop}
theorem Data.loop (k:Data h O) {l:Nat} {L:Loop} (kl:At h l (.loop L)) (b:Nat) (hb:O b):¬ b=l:=by
  rintro rfl
  obtain ⟨r,hr,hd⟩:=k b hb
  have:h[b]?=some (.loop L):=kl
  rw [hr] at this; cases this; cases hd
theorem Data.defer (k:Data h O) {l:Nat} {d:Option (List Deferred)} (kl:At h l (.deferred d)) (b:Nat) (hb:O b):¬ b=l:=by
  rintro rfl
  obtain ⟨r,hr,hd⟩:=k b hb
  have:h[b]?=some (.deferred d):=kl
  rw [hr] at this; cases this; cases hd
theorem Data.blk_lt (k:Data h O) {b:Nat} (hb:O b):b < h.size:=by
  obtain ⟨r,hr,_⟩:=k b hb; exact (Array.getElem?_eq_some_iff.1 hr).1
theorem Celled.data (k:Celled h O):Data h O:=fun b hb=>by
  obtain ⟨cs,e,fr,hr⟩:=k b hb; exact ⟨_,hr,rfl⟩
end

/-! ### lists of pairs -/
section
variable {κ α : Type}
def findK [DecidableEq κ] (m:List (κ × α)) (k:κ):Option α:=(m.find? fun p=>decide (p.1=k)).map (·.2)
def setK [DecidableEq κ] (m:List (κ × α)) (k:κ) (a:α):List (κ × α):=m.map fun p=>if p.1=k then (k,a) else p
def delK [DecidableEq κ] (m:List (κ × α)) (k:κ):List (κ × α):=m.filter fun p=>!decide (p.1=k)
theorem findK_nil [DecidableEq κ] (k:κ):findK ([]:List (κ × α)) k=none:=rfl
theorem findK_cons [DecidableEq κ] (p:κ × α) (m:List (κ × α)) (k:κ):findK (p :: m) k=if p.1=k then some p.2 else findK m k:=by
  unfold findK
  rw [List.find?_cons]
  by_cases h:p.1=k
  · simp [h]
  · simp [h]
theorem findK_mem [DecidableEq κ] {m:List (κ × α)} {k:κ} {a:α} (h:findK m k=some a):(k,a) ∈ m:=by
  induction m with
  | nil=>cases h
  | cons p m ih =>
    rw [findK_cons] at h
    split at h
    · rename_i e; cases h; rw [← e]; exact List.mem_cons_self ..
    · exact List.mem_cons_of_mem _ (ih h)
theorem findK_none [DecidableEq κ] {m:List (κ × α)} {k:κ}:findK m k=none ↔ k ∉ m.map (·.1):=by
  induction m with
  | nil=>simp [findK_nil]
  | cons p m ih =>
    rw [findK_cons]
    by_cases e:p.1=k
    · simp [e]
    · rw [if_neg e,ih]; simp [Ne.symm e]
theorem findK_split [DecidableEq κ] {m:List (κ × α)} {k:κ} {a:α} (h:findK m k=some a):∃ m1 m2,m=m1++(k,a) :: m2:=List.append_of_mem (findK_mem h)
theorem apart_split {m1 m2:List (κ × α)} {k:κ} {a:α} (h:((m1++(k,a) :: m2).map (·.1)).Nodup):(∀ p ∈ m1,¬ p.1=k)∧∀ p ∈ m2,¬ p.1=k:=by
  simp only [List.map_append,List.map_cons] at h
  rw [List.nodup_append] at h
  obtain ⟨h1,h2,h3⟩:=h
  rw [List.nodup_cons] at h2
  refine ⟨fun p hp e=>?_,fun p hp e=>?_⟩
  · exact h3 p.1 (List.mem_map_of_mem hp) k (List.mem_cons_self ..) e
  · exact h2.1 (e ▸ List.mem_map_of_mem hp)
theorem map_id_of [DecidableEq κ] {m:List (κ × α)} {k:κ} {a:α} (h:∀ p ∈ m,¬ p.1=k):(m.map fun p=>if p.1=k then (k,a) else p)=m:=by
  induction m with
  | nil=>rfl
  | cons p m ih =>
    rw [List.map_cons,if_neg (h p (List.mem_cons_self ..)),ih fun q hq=>h q (List.mem_cons_of_mem _ hq)]
theorem setK_split [DecidableEq κ] {m1 m2:List (κ × α)} {k:κ} {a:α} (b:α) (h:((m1++(k,a) :: m2).map (·.1)).Nodup):setK (m1++(k,a) :: m2) k b=m1++(k,b) :: m2:=by
  obtain ⟨h1,h2⟩:=apart_split h
  unfold setK
  rw [List.map_append,List.map_cons,map_id_of h1,map_id_of h2]
  simp
theorem setK_keys [DecidableEq κ] (m:List (κ × α)) (k:κ) (a:α):(setK m k a).map (·.1)=m.map (·.1):=by
  unfold setK
  rw [List.map_map]
  refine List.map_congr_left fun p _=>?_
  simp only [Function.comp_apply]
  split
  · rename_i e; exact e.symm
  · rfl
theorem findK_of_mem [DecidableEq κ] {m:List (κ × α)} {k:κ} {a:α} (h:(m.map (·.1)).Nodup) (hm:(k,a) ∈ m):findK m k=some a:=by
  obtain ⟨m1,m2,rfl⟩:=List.append_of_mem hm
  obtain ⟨h1,_⟩:=apart_split h
  clear h hm
  induction m1 with
  | nil=>rw [List.nil_append,findK_cons,if_pos rfl]
  | cons p m1 ih=>rw [List.cons_append,findK_cons,if_neg (h1 p (List.mem_cons_self ..))]; exact ih fun q hq=>h1 q (List.mem_cons_of_mem _ hq)
end

/-! ### what a map holds -/
structure MapIn {κ α:Type} (kf:κ→Value) (vf:α→Value) (es:Array MapEntry) (ck:Nat) (m:List (κ × α)):Prop where
  perm:(es.toList.map fun e=>(e.key,e.val)).Perm (m.map fun p=>(kf p.1,vf p.2))
  apart:(m.map (·.1)).Nodup
  born:∀ x ∈ es.toList,x.born < ck
  borns:(es.toList.map (·.born)).Nodup
def MapAt {κ α:Type} (h:Heap) (kf:κ→Value) (vf:α→Value) (b:Nat) (m:List (κ × α)):Prop:=∃ es ck,h[b]?=some (.map es ck)∧MapIn kf vf es ck m
/-- The type of a map. -/
structure MapTy {κ:Type} [DecidableEq κ] (P:Program) (t kt et:TypeId) (kf:κ→Value):Prop where
  und:P.underlying t=some (.map kt et)
  ok:∀ k,keyOk P 8 kt (kf k)=true
  flat:∀ k,flatV (kf k)=true
  find:∃ kd,(∀ k es,findA P kt (kf k) es=Instr.findNow kd (kf k) es.toList 0)∧∀ a b,Instr.sameNow kd (kf a) (kf b)=some (decide (a=b))

section
variable {κ α : Type} {P : Program} {h h1 : Heap} {kf : κ → Value} {vf : α → Value} {t kt et : TypeId} {b : Nat} {m m' : List (κ × α)}
theorem MapTy.int {t kt et:TypeId} {i:IntKind} (h:P.underlying t=some (.map kt et)) (hk:P.underlying kt=some (.int i)):MapTy P t kt et (Value.int .i64) where
  und:=h
  ok k:=by simp [keyOk,hk]
  flat k:=rfl
  find:=⟨.int i,fun k es=>by simp [findA,hk],fun a b=>by
    simp only [Instr.sameNow,if_true,Option.some.injEq]
    by_cases e:a=b
    · subst e; simp
    · simp [e]⟩
theorem MapTy.inj [DecidableEq κ] (T:MapTy P t kt et kf) {a b:κ} (e:kf a=kf b):a=b:=by
  obtain ⟨kd,_,hs⟩:=T.find
  have h1:=hs a b
  rw [← e,hs a a] at h1
  simpa using h1

theorem findNow_spec [DecidableEq κ] {kd:TypeDesc} (hs:∀ a b,Instr.sameNow kd (kf a) (kf b)=some (decide (a=b))) (k:κ):∀ (L:List MapEntry) (i:Nat),(∀ e ∈ L,∃ k',e.key=kf k') →
    (∃ L1 e L2,L=L1++e :: L2∧e.key=kf k∧Instr.findNow kd (kf k) L i=some (some (i + L1.length,e.val))) ∨ ((∀ e ∈ L,¬ e.key=kf k)∧Instr.findNow kd (kf k) L i=some none)
  | [],i,_=>.inr ⟨fun e he=>by simp at he,rfl⟩
  | e :: L,i,hk=>by
    obtain ⟨k',hk'⟩:=hk e (List.mem_cons_self ..)
    by_cases e1:k=k'
    · subst e1
      refine .inl ⟨[],e,L,rfl,hk',?_⟩
      simp [Instr.findNow,hk',hs]
    · rcases findNow_spec hs k L (i + 1) (fun x hx=>hk x (List.mem_cons_of_mem _ hx)) with ⟨L1,e2,L2,rfl,q1,q2⟩ | ⟨q1,q2⟩
      · refine .inl ⟨e :: L1,e2,L2,rfl,q1,?_⟩
        rw [Instr.findNow,hk',hs,decide_eq_false e1]
        simp only [q2,List.length_cons]
        congr 3; omega
      · refine .inr ⟨fun x hx=>?_,?_⟩
        · rcases List.mem_cons.1 hx with rfl | hx
          · intro w
            have:=hs k k'
            rw [← hk',w,hs k k] at this
            simp [e1] at this
          · exact q1 x hx
        · rw [Instr.findNow,hk',hs,decide_eq_false e1]
          exact q2

section
variable {es : Array MapEntry} {ck : Nat}
theorem MapIn.keyed (M:MapIn kf vf es ck m):∀ e ∈ es.toList,∃ p ∈ m,e.key=kf p.1∧e.val=vf p.2:=by
  intro e he
  have:=M.perm.mem_iff.1 (List.mem_map_of_mem (f:=fun e=>(e.key,e.val)) he)
  obtain ⟨p,hp,q⟩:=List.mem_map.1 this
  simp only [Prod.mk.injEq] at q
  exact ⟨p,hp,q.1.symm,q.2.symm⟩
theorem MapIn.len (M:MapIn kf vf es ck m):es.size=m.length:=by
  have:=M.perm.length_eq
  simpa using this
theorem MapIn.permM (M:MapIn kf vf es ck m) (q:m.Perm m'):MapIn kf vf es ck m' :=
  ⟨M.perm.trans (q.map _),(q.map _).nodup_iff.1 M.apart,M.born,M.borns⟩
/-- A key that is there. -/
theorem MapIn.find_some [DecidableEq κ] (T:MapTy P t kt et kf) (M:MapIn kf vf es ck m) {k:κ} {a:α} (hm:findK m k=some a) :
    ∃ L1 e L2,es.toList=L1++e :: L2∧e.key=kf k∧e.val=vf a∧findA P kt (kf k) es=some (some (L1.length,vf a)):=by
  obtain ⟨kd,hf,hs⟩:=T.find
  rw [hf]
  rcases findNow_spec hs k es.toList 0 (fun e he=>by obtain ⟨p,_,q,_⟩:=M.keyed e he; exact ⟨_,q⟩) with ⟨L1,e,L2,q1,q2,q3⟩ | ⟨q1,q2⟩
  · obtain ⟨p,hp,w1,w2⟩:=M.keyed e (by rw [q1]; simp)
    have e1:p.1=k:=T.inj (w1.symm.trans q2)
    have e2:findK m k=some p.2:=findK_of_mem M.apart (by rw [← e1]; exact hp)
    rw [hm] at e2; cases e2
    exact ⟨L1,e,L2,q1,q2,w2,by rw [q3,w2,Nat.zero_add]⟩
  · exfalso
    have hp:=findK_mem hm
    have:=M.perm.mem_iff.2 (List.mem_map_of_mem (f:=fun p:κ × α=>(kf p.1,vf p.2)) hp)
    obtain ⟨e,he,w⟩:=List.mem_map.1 this
    simp only [Prod.mk.injEq] at w
    exact q1 e he w.1
theorem MapIn.find_none [DecidableEq κ] (T:MapTy P t kt et kf) (M:MapIn kf vf es ck m) {k:κ} (hm:findK m k=none):findA P kt (kf k) es=some none:=by
  obtain ⟨kd,hf,hs⟩:=T.find
  rw [hf]
  rcases findNow_spec hs k es.toList 0 (fun e he=>by obtain ⟨p,_,q,_⟩:=M.keyed e he; exact ⟨_,q⟩) with ⟨L1,e,L2,q1,q2,q3⟩ | ⟨q1,q2⟩
  · obtain ⟨p,hp,w1,w2⟩:=M.keyed e (by rw [q1]; simp)
    have e1:p.1=k:=T.inj (w1.symm.trans q2)
    exact absurd (e1 ▸ List.mem_map_of_mem hp) (findK_none.1 hm)
  · exact q2
end

theorem MapAt.keep (k:MapAt h kf vf b m) (w:∀ q r,q=b→h[q]?=some r→h1[q]?=some r):MapAt h1 kf vf b m:=by
  obtain ⟨es,ck,hr,M⟩:=k; exact ⟨es,ck,w _ _ rfl hr,M⟩
theorem MapAt.perm (k:MapAt h kf vf b m) (q:m.Perm m'):MapAt h kf vf b m':=by
  obtain ⟨es,ck,hr,M⟩:=k; exact ⟨es,ck,hr,M.permM q⟩
theorem MapAt.apart (k:MapAt h kf vf b m):(m.map (·.1)).Nodup:=by obtain ⟨es,ck,hr,M⟩:=k; exact M.apart
theorem MapAt.lt (k:MapAt h kf vf b m):b < h.size:=by obtain ⟨es,ck,hr,M⟩:=k; exact (Array.getElem?_eq_some_iff.1 hr).1
theorem MapAt.blk_lt (k:MapAt h kf vf b m) {q:Nat} (hq:q=b):q < h.size:=hq ▸ k.lt
theorem MapAt.data (k:MapAt h kf vf b m):Data h (fun q=>q=b):=by
  obtain ⟨es,ck,hr,M⟩:=k; rintro _ rfl; exact ⟨_,hr,rfl⟩
theorem MapAt.ne (k:MapAt h kf vf b m) {q:Nat} {c:Array Value} {e:TypeId} {fr:Nat × Nat} (hq:h[q]?=some (.cells c e fr)):¬ b=q:=by
  obtain ⟨es,ck,hr,M⟩:=k
  rintro rfl; rw [hr] at hq; cases hq

/-! ### the operations -/
theorem MapAt.lookup_some [DecidableEq κ] (T:MapTy P t kt et kf) (k:MapAt h kf vf b m) {x:κ} {a:α} (hm:findK m x=some a) (ok:Bool) :
    lookupA P h t (.map (some b)) (kf x) ok=some (if ok then .tuple #[vf a,.bool true] else vf a):=by
  obtain ⟨es,ck,hr,M⟩:=k
  obtain ⟨L1,e,L2,_,_,_,q⟩:=M.find_some T hm
  simp only [lookupA,T.und,T.ok,T.flat,and_self,if_true,entriesA,hr,q]
theorem MapAt.lookup_none [DecidableEq κ] (T:MapTy P t kt et kf) (k:MapAt h kf vf b m) {x:κ} {z:Value} (hz:zeroA P et=some z) (hm:findK m x=none) (ok:Bool) :
    lookupA P h t (.map (some b)) (kf x) ok=some (if ok then .tuple #[z,.bool false] else z):=by
  obtain ⟨es,ck,hr,M⟩:=k
  simp only [lookupA,T.und,T.ok,T.flat,and_self,if_true,entriesA,hr,M.find_none T hm,hz,Option.map_some]
theorem MapAt.len_eq [DecidableEq κ] (T:MapTy P t kt et kf) (k:MapAt h kf vf b m):lenA P h t (.map (some b))=some (.int .i64 (m.length:Nat)):=by
  obtain ⟨es,ck,hr,M⟩:=k
  simp only [lenA,T.und,hr,M.len,goInt]
theorem pairs_modify {es:Array MapEntry} {L1 L2:List MapEntry} {e:MapEntry} (hl:es.toList=L1++e :: L2) (f:MapEntry→MapEntry):(es.modify L1.length f).toList=L1++f e :: L2:=by
  apply List.ext_getElem?
  intro i
  rw [Array.getElem?_toList,Array.getElem?_modify,← Array.getElem?_toList,hl]
  rcases Nat.lt_trichotomy i L1.length with g | g | g
  · rw [if_neg (by omega),List.getElem?_append_left g,List.getElem?_append_left g]
  · subst g; rw [if_pos rfl,List.getElem?_append_right (Nat.le_refl _),List.getElem?_append_right (Nat.le_refl _)]; simp
  · obtain ⟨d,rfl⟩:∃ d,i=L1.length + (d + 1):=⟨i - L1.length - 1,by omega⟩
    rw [if_neg (by omega),List.getElem?_append_right (by omega),List.getElem?_append_right (by omega)]
    simp
/-- What is there is put there again: nothing turns. -/
theorem MapAt.update_same [DecidableEq κ] (T:MapTy P t kt et kf) (k:MapAt h kf vf b m) {x:κ} {a:α} (hm:findK m x=some a):mapUpdateA P h t (.map (some b)) (kf x) (vf a)=some h:=by
  obtain ⟨es,ck,hr,M⟩:=k
  obtain ⟨L1,e,L2,hl,hk,hv,q⟩:=M.find_some T hm
  have hmod:(es.modify L1.length fun e=>{ e with key:=kf x,val:=vf a })=es:=by
    apply Array.ext'
    rw [pairs_modify hl,hl,← hk,← hv]
  simp only [mapUpdateA,T.und,T.ok,T.flat,and_self,if_true,hr,q]
  rw [hmod]
  congr 1
  apply Array.ext_getElem?
  intro i
  rw [Array.getElem?_setIfInBounds]
  by_cases hi:b=i
  · subst hi; rw [if_pos rfl,if_pos (Array.getElem?_eq_some_iff.1 hr).1,hr]
  · rw [if_neg hi]
theorem MapAt.update_old [DecidableEq κ] (T:MapTy P t kt et kf) (k:MapAt h kf vf b m) {x:κ} {a0:α} (hm:findK m x=some a0) (a:α) :
    ∃ h1,mapUpdateA P h t (.map (some b)) (kf x) (vf a)=some h1∧MapAt h1 kf vf b (setK m x a)∧Chg (fun q=>q=b) h h1∧h1.size=h.size:=by
  obtain ⟨es,ck,hr,M⟩:=k
  obtain ⟨L1,e,L2,hl,hk,hv,q⟩:=M.find_some T hm
  refine ⟨h.setIfInBounds b (.map (es.modify L1.length fun e=>{ e with key:=kf x,val:=vf a }) ck),by simp only [mapUpdateA,T.und,T.ok,T.flat,and_self,if_true,hr,q],?_,Chg.set rfl,by simp⟩
  have hlt:=(Array.getElem?_eq_some_iff.1 hr).1
  refine ⟨_,_,Array.getElem?_setIfInBounds_self_of_lt hlt,?_⟩
  obtain ⟨m1,m2,hs⟩:=findK_split hm
  have hmod:=pairs_modify hl (fun e:MapEntry=>{ e with key:=kf x,val:=vf a })
  refine ⟨?_,by rw [setK_keys]; exact M.apart,?_,?_⟩
  · have hp:=M.perm
    rw [hmod]
    have ha:=M.apart
    subst hs
    rw [setK_split a ha]
    rw [hl] at hp
    simp only [List.map_append,List.map_cons,hk,hv] at hp ⊢
    have h1:=(List.perm_middle.symm.trans (hp.trans List.perm_middle)).cons_inv
    exact List.perm_middle.trans ((h1.cons _).trans List.perm_middle.symm)
  · intro y hy
    rw [hmod] at hy
    rcases List.mem_append.1 hy with hy | hy
    · exact M.born y (by rw [hl]; exact List.mem_append_left _ hy)
    · rcases List.mem_cons.1 hy with rfl | hy
      · exact M.born e (by rw [hl]; simp)
      · exact M.born y (by rw [hl]; exact List.mem_append_right _ (List.mem_cons_of_mem _ hy))
  · rw [hmod]
    have:=M.borns
    rw [hl] at this
    simpa using this
theorem MapAt.update_new [DecidableEq κ] (T:MapTy P t kt et kf) (k:MapAt h kf vf b m) {x:κ} (hm:findK m x=none) (a:α) :
    ∃ h1,mapUpdateA P h t (.map (some b)) (kf x) (vf a)=some h1∧MapAt h1 kf vf b ((x,a) :: m)∧Chg (fun q=>q=b) h h1∧h1.size=h.size:=by
  obtain ⟨es,ck,hr,M⟩:=k
  refine ⟨h.setIfInBounds b (.map (es.push { key:=kf x,val:=vf a,born:=ck }) (ck + 1)),by simp only [mapUpdateA,T.und,T.ok,T.flat,and_self,if_true,hr,M.find_none T hm],?_,Chg.set rfl,by simp⟩
  have hlt:=(Array.getElem?_eq_some_iff.1 hr).1
  refine ⟨_,_,Array.getElem?_setIfInBounds_self_of_lt hlt,?_⟩
  refine ⟨?_,List.nodup_cons.2 ⟨findK_none.1 hm,M.apart⟩,?_,?_⟩
  · rw [Array.toList_push,List.map_append]
    exact (List.perm_append_singleton _ _).trans (M.perm.cons _)
  · intro y hy
    rw [Array.toList_push] at hy
    rcases List.mem_append.1 hy with hy | hy
    · have:=M.born y hy; omega
    · rw [List.mem_singleton.1 hy]; exact Nat.lt_succ_self _
  · rw [Array.toList_push,List.map_append,List.nodup_append]
    refine ⟨M.borns,by simp,?_⟩
    intro u hu v hv e
    obtain ⟨y,hy,rfl⟩:=List.mem_map.1 hu
    have:=M.born y hy
    simp only [List.map_cons,List.map_nil,List.mem_singleton] at hv
    omega
theorem MapAt.make (e:h1=h.push (.map #[] 0)):MapAt h1 kf vf h.size ([]:List (κ × α)):=by
  subst e
  exact ⟨#[],0,by simp,by simp,by simp,fun x hx=>by simp at hx,by simp⟩
end
end Go.AM
