/- An abstract machine for Go, parts 42 to 49 of B: what is told of a world; a map that is copied. -/
import Derived.Test.YtjkcadbblgefdaaGreatDoorBml
import Derived.Maps.RangeWalk
namespace Go.AM

section
variable {P : Program} {R R1 : Ren} {h h1 : Heap} {w w' : World}

/-- One more block of the new world is told. -/
theorem Sim.more (s:Sim P R h w R1 h1 w') {o o':Obj} {g:Nat} {sl:Option (Nat × Nat)} (hsl:SlackOk P sl o o') (hfree:∀ b,R1.map b ≠ some g) (hg:w'.heap[g]?=some o')
    (ho:ObjR (R1.bind h1.size g sl) o o') (hnew:w.heap.size≤g):Sim P R h w (R1.bind h1.size g sl) (h1.push o) w':=by
  have hle:=Ren.le_bind s.rel g sl
  refine ⟨⟨?_,?_,?_,s.rel.glob_le hle⟩,s.le.trans hle,by have:=s.hsz; simp; omega,?_,?_,s.os,s.tape,s.output,s.wsz,s.conc,?_,s.shape⟩
  · intro b b' x hb hb'
    simp only [Ren.bind] at hb hb'
    split at hb <;> split at hb'
    · omega
    · cases hb; exact absurd hb' (hfree _)
    · cases hb'; exact absurd hb (hfree _)
    · exact s.rel.inj _ _ _ hb hb'
  · intro b x hb
    simp only [Ren.bind] at hb
    rw [hget_push]
    split at hb
    · rename_i e; cases hb; rw [if_pos e]; exact ⟨o,o',rfl,hg,ho,by simp only [Ren.bind]; rw [if_pos e]; exact hsl⟩
    · rename_i e
      rw [if_neg e]
      obtain ⟨p,p',q1,q2,q3,q4⟩:=s.rel.obj b x hb
      exact ⟨p,p',q1,q2,q3.mono hle,by simp only [Ren.bind]; rw [if_neg e]; exact q4⟩
  · intro b hb
    obtain ⟨q1,q2⟩:=s.rel.dead b hb
    have:=s.rel.dead_lt hb
    rw [hget_push,if_neg (by omega)]
    exact ⟨by simp only [Ren.bind]; rw [if_neg (by omega)]; exact q1,q2⟩
  · intro b hb e
    have:=s.hsz
    rw [Array.getElem?_push,if_neg (by omega)]
    exact s.canon b hb e
  · intro b hb e
    have:=s.hsz
    obtain ⟨q1,q2⟩:=s.old b hb e
    exact ⟨by simp only [Ren.bind]; rw [if_neg (by omega)]; exact q1,q2⟩
  · intro b x hb
    simp only [Ren.bind] at hb
    split at hb
    · rename_i e; cases hb; exact .inr ⟨by have:=s.hsz; omega,.inl hnew⟩
    · exact s.newc b x hb

/-- A row, and the block that it stands for. -/
structure Item where
  o:Obj
  g:Nat
  sl:Option (Nat × Nat)
  o':Obj
def bindAll (R:Ren) (n:Nat):List Item→Ren
  | []=>R
  | i :: L=>bindAll (R.bind n i.g i.sl) (n + 1) L
theorem bindAll_map:∀ (L:List Item) (R:Ren) (n b:Nat),(bindAll R n L).map b=if n≤b∧b < n + L.length then (L[b - n]?).map (·.g) else R.map b
  | [],R,n,b=>by rw [if_neg (by simp only [List.length_nil]; omega)]; rfl
  | i :: L,R,n,b=>by
    have ih:=bindAll_map L (R.bind n i.g i.sl) (n + 1) b
    simp only [bindAll]
    rw [ih]
    simp only [Ren.bind,List.length_cons]
    by_cases e:b=n
    · subst e; rw [if_neg (by omega),if_pos rfl,if_pos (by omega)]; simp
    · by_cases c:n + 1≤b∧b < n + 1 + L.length
      · rw [if_pos c,if_pos (by omega),show b - n=(b - (n + 1)) + 1 by omega]; simp
      · rw [if_neg c,if_neg e,if_neg (by omega)]
theorem bindAll_slack:∀ (L:List Item) (R:Ren) (n b:Nat),(bindAll R n L).slack b=if n≤b∧b < n + L.length then ((L[b - n]?).map (·.sl)).getD none else R.slack b
  | [],R,n,b=>by rw [if_neg (by simp only [List.length_nil]; omega)]; rfl
  | i :: L,R,n,b=>by
    have ih:=bindAll_slack L (R.bind n i.g i.sl) (n + 1) b
    simp only [bindAll]
    rw [ih]
    simp only [Ren.bind,List.length_cons]
    by_cases e:b=n
    · subst e; rw [if_neg (by omega),if_pos rfl,if_pos (by omega)]; simp
    · by_cases c:n + 1≤b∧b < n + 1 + L.length
      · rw [if_pos c,if_pos (by omega),show b - n=(b - (n + 1)) + 1 by omega]; simp
      · rw [if_neg c,if_neg e,if_neg (by omega)]
/-- Blocks whose content does not depend on others are told, one after the other. -/
theorem Sim.many:∀ (L:List Item) {R1:Ren} {h1:Heap},Sim P R h w R1 h1 w'→(∀ i ∈ L,SlackOk P i.sl i.o i.o'∧w'.heap[i.g]?=some i.o'∧(∀ R2,ObjR R2 i.o i.o')∧w.heap.size≤i.g∧∀ b,R1.map b ≠ some i.g)→(L.map (·.g)).Nodup →
    Sim P R h w (bindAll R1 h1.size L) (h1++(L.map (·.o)).toArray) w'
  | [],_,h1,s,_,_=>by simpa [bindAll] using s
  | i :: L,R1,h1,s,hi,hn=>by
    obtain ⟨a1,a2,a3,a4,a5⟩:=hi i (List.mem_cons_self ..)
    rw [List.map_cons,List.nodup_cons] at hn
    have s1:=s.more a1 a5 a2 (a3 _) a4
    have q:=Sim.many L s1 (fun j hj=>by
      obtain ⟨b1,b2,b3,b4,b5⟩:=hi j (List.mem_cons_of_mem _ hj)
      refine ⟨b1,b2,b3,b4,fun b=>?_⟩
      simp only [Ren.bind]
      split
      · intro w; exact hn.1 (List.mem_map.2 ⟨j,hj,(Option.some.inj w).symm⟩)
      · exact b5 b) hn.2
    have e:h1++((i :: L).map (·.o)).toArray=h1.push i.o++(L.map (·.o)).toArray:=by
      apply Array.ext'
      simp
    rw [e]
    simpa [bindAll] using q
end

/-- What stands for a value does not depend on where other blocks lie. -/
def Steady (v:Value):Prop:=∀ R R' v',VR R v v'→VR R' v v'
theorem steady_flat {v:Value} (h:flatV v=true):Steady v:=fun R R' v' k=>by rw [flatV_eq h k]; exact flatV_VR h
/-- Rows whose cells are such values. -/
def SteadyRow (h:Heap) (b:Nat):Prop:=∃ c e fr,h[b]?=some (.cells c e fr)∧fr ≠ (2,2)∧∀ v ∈ c,Steady v
theorem ObjR.steady {R R':Ren} {c:Array Value} {e:TypeId} {fr:Nat × Nat} (hs:∀ v ∈ c,Steady v) {o:Obj} (k:ObjR R (.cells c e fr) o):ObjR R' (.cells c e fr) o:=by
  obtain ⟨c',e',fr',e1,h1,h2,h3⟩:=k
  exact ⟨c',e',fr',e1,h1,fun i v hv=>let ⟨v',q1,q2⟩:=h2 i v hv; ⟨v',q1,hs v (Array.mem_of_getElem? hv) _ _ _ q2⟩,h3⟩
/-- Only some blocks are told. -/
def Ren.only (R:Ren) (p:Nat→Prop) [DecidablePred p]:Ren:={ map:=fun b=>if p b then R.map b else none,slack:=R.slack,dead:=R.dead,ghost:=R.ghost }

section
variable {P : Program} {R R2 : Ren} {h h2 : Heap} {w w' : World} {p : Nat → Prop} [DecidablePred p]
theorem Rel.only (k:Rel P R (hget h) w) (hp:∀ b,p b→SteadyRow h b) (hG:∀ g ∈ globList,p g):Rel P (R.only p) (hget h) w:=by
  refine ⟨fun b b' g hb hb'=>?_,fun b g hb=>?_,fun b hb=>?_,fun g hg=>?_⟩
  · simp only [Ren.only] at hb hb'
    split at hb <;> split at hb' <;> first | cases hb | cases hb' | exact k.inj _ _ _ hb hb'
  · simp only [Ren.only] at hb
    split at hb
    · rename_i hpb
      obtain ⟨c,e,fr,h1,_,h3⟩:=hp b hpb
      obtain ⟨o,o',q1,q2,q3,q4⟩:=k.obj b g hb
      simp only [hget,h1,Option.some.injEq] at q1
      subst q1
      exact ⟨_,o',h1,q2,q3.steady h3,q4⟩
    · cases hb
  · obtain ⟨h1,h2⟩:=k.dead b hb
    exact ⟨by simp only [Ren.only,h1]; split <;> rfl,h2⟩
  · rcases k.glob g hg with q | q
    · exact .inl q
    · exact .inr (by simp only [Ren.only]; rw [if_pos (hG g hg)]; exact q)
theorem only_map {b g:Nat} (hb:(R.only p).map b=some g):p b∧R.map b=some g:=by
  simp only [Ren.only] at hb
  split at hb
  · exact ⟨by assumption,hb⟩
  · cases hb
/-- A row that is as it was did not die. -/
theorem Sim.alive (s:Sim P (R.only p) h w R2 h2 w') (he:Ext h h2) {b g:Nat} (hs:SteadyRow h b) (hp:p b) (hb:R.map b=some g):R2.map b=some g∧R2.slack b=R.slack b∧R2.dead b=false:=by
  obtain ⟨c,e,fr,h1,h3,_⟩:=hs
  have hm:(R.only p).map b=some g:=by simp only [Ren.only]; rw [if_pos hp]; exact hb
  have nd:¬ R2.dead b=true:=fun w=>by
    have:=(s.rel.dead b w).2
    simp only [hget,he _ _ h1,deadRow,Option.some.injEq,Obj.cells.injEq] at this
    exact h3 this.2.2
  refine ⟨(s.le.map b g hm).resolve_right nd,(s.le.slack b g hm).resolve_right nd,by simpa using nd⟩
/-- A new canonical row stands for a new block. -/
theorem Sim.fresh (s:Sim P (R.only p) h w R2 h2 w') (he:Ext h h2) (hp:∀ b,p b→SteadyRow h b) {b g:Nat} (hb:R2.map b=some g) (hn:h.size≤b) (k:Rel P R (hget h) w):w.heap.size≤g:=by
  rcases s.newc b g hb with q | ⟨_,q | ⟨b0,q,_⟩⟩
  · have:=(k.lt (only_map q).2).1; omega
  · exact q
  · have h0:=(k.lt (only_map q).2).1
    have:=(s.alive he (hp b0 (only_map q).1) (only_map q).1 (only_map q).2).1
    have:=s.rel.inj _ _ _ hb this
    omega
/-- What stands for a list that was laid anew: its block, and how much room its row has. -/
structure CloneOf (P:Program) (e:TypeId) (c:Array Value) (n:Nat) (v':Value) (g r:Nat) (o':Obj):Prop where
  val:∃ c',v'=.slice (some ⟨g,0,none⟩) n c'∧(c'=n ∨ (n≤c'∧c' * tsz P e≤r))
  row:∃ c1 e1 fr1,o'=.cells c1 e1 fr1∧c1.size=r∧c.size≤r∧(∀ (i:Nat) (v:Value),c[i]?=some v→c1[i]?=some v)∧∀ i,i < r→inFr fr1 i=false
theorem CloneOf.item {e:TypeId} {c:Array Value} {n g r:Nat} {v':Value} {o':Obj} (q:CloneOf P e c n v' g r o') (hc:∀ v ∈ c,flatV v=true) :
    SlackOk P (some (tsz P e,r)) (.cells c e (1,1)) o'∧∀ R2,ObjR R2 (.cells c e (1,1)) o':=by
  obtain ⟨c1,e1,fr1,rfl,h1,h2,h3,h4⟩:=q.row
  refine ⟨⟨rfl,fun z r' hz=>?_⟩,fun R2=>⟨c1,e1,fr1,rfl,by omega,fun i v hv=>⟨v,h3 i v hv,flatV_VR (hc v (Array.mem_of_getElem? hv))⟩,fun i hi=>?_⟩⟩
  · cases hz; exact ⟨⟨c,e,rfl,rfl⟩,c1,e1,fr1,rfl,h1,h4⟩
  · rw [h4 i (by omega)]; simp [inFr]; omega
theorem CloneOf.vr {e:TypeId} {c:Array Value} {n g r nb:Nat} {v':Value} {o':Obj} (q:CloneOf P e c n v' g r o') (hn:n ≠ 0) {R':Ren} (h1:R'.map nb=some g) (h2:R'.slack nb=some (tsz P e,r)):VR R' (.slice (some ⟨nb,0,none⟩) n n) v':=by
  obtain ⟨c',rfl,hcap⟩:=q.val
  rw [VR_slice]
  refine ⟨_,c',rfl,.inl ⟨⟨rfl,rfl,.inr ⟨h1,.inl rfl⟩⟩,?_⟩⟩
  rcases hcap with q | ⟨l1,l2⟩
  · exact .inl q
  · exact .inr (.inl ⟨_,_,h2,fun w=>hn w.1,l1,by simpa using l2⟩)
end

section
variable {P : Program} {R : Ren} {h : Heap} {w w' : World} {α : Type}
/-- The rows of the values. -/
def rowsOf (e:TypeId) (cf:α→Array Value) (L:List (Int × α)):Array Obj:=(L.map fun p=>Obj.cells (cf p.2) e (1,1)).toArray
/-- The pairs, each value with its row. -/
def placed (mk:α→Nat→α):Nat→List (Int × α)→List (Int × α)
  | _,[]=>[]
  | n,p :: L=>(p.1,mk p.2 n) :: placed mk (n + 1) L
def entsOf (vf:α→Value):Nat→List (Int × α)→List MapEntry
  | _,[]=>[]
  | i,p :: L=>{ key:=.int .i64 p.1,val:=vf p.2,born:=i } :: entsOf vf (i + 1) L
theorem placed_keys (mk:α→Nat→α):∀ (n:Nat) (L:List (Int × α)),(placed mk n L).map (·.1)=L.map (·.1)
  | _,[]=>rfl
  | n,p :: L=>by rw [placed,List.map_cons,placed_keys mk (n + 1) L]; rfl
theorem placed_at (mk:α→Nat→α):∀ (n:Nat) (L:List (Int × α)) (i:Nat),(placed mk n L)[i]?=(L[i]?).map fun p=>(p.1,mk p.2 (n + i))
  | _,[],_=>by simp [placed]
  | n,p :: L,0=>by simp [placed]
  | n,p :: L,i + 1=>by
    rw [placed,List.getElem?_cons_succ,placed_at mk (n + 1) L i,List.getElem?_cons_succ,show n + 1 + i=n + (i + 1) by omega]
theorem entsOf_pairs (vf:α→Value):∀ (i:Nat) (L:List (Int × α)),(entsOf vf i L).map (fun e=>(e.key,e.val))=L.map fun p=>(Value.int .i64 p.1,vf p.2)
  | _,[]=>rfl
  | i,p :: L=>by rw [entsOf,List.map_cons,entsOf_pairs vf (i + 1) L]; rfl
theorem entsOf_keys (vf:α→Value):∀ (i:Nat) (L:List (Int × α)),(entsOf vf i L).map (·.key)=L.map fun p=>Value.int .i64 p.1
  | _,[]=>rfl
  | i,p :: L=>by rw [entsOf,List.map_cons,entsOf_keys vf (i + 1) L]; rfl
theorem entsOf_born (vf:α→Value):∀ (i:Nat) (L:List (Int × α)),(∀ x ∈ entsOf vf i L,i≤x.born∧x.born < i + L.length)∧((entsOf vf i L).map (·.born)).Nodup
  | _,[]=>⟨fun x hx=>absurd hx (by simp [entsOf]),by simp [entsOf]⟩
  | i,p :: L=>by
    obtain ⟨h1,h2⟩:=entsOf_born vf (i + 1) L
    refine ⟨fun x hx=>?_,?_⟩
    · rw [entsOf] at hx
      rcases List.mem_cons.1 hx with rfl | hx
      · exact ⟨Nat.le_refl _,by simp⟩
      · have:=h1 x hx; simp only [List.length_cons]; omega
    · rw [entsOf,List.map_cons,List.nodup_cons]
      refine ⟨fun hx=>?_,h2⟩
      obtain ⟨y,hy,e⟩:=List.mem_map.1 hx
      have:=(h1 y hy).1
      simp only at e
      omega
theorem entsOf_at {vf:α→Value}:∀ {i:Nat} {L:List (Int × α)} {x:MapEntry},x ∈ entsOf vf i L→∃ (j:Nat) (p:Int × α),L[j]?=some p∧x.key=.int .i64 p.1∧x.val=vf p.2
  | _,[],_,hx=>absurd hx (by simp [entsOf])
  | i,p :: L,x,hx=>by
    rw [entsOf] at hx
    rcases List.mem_cons.1 hx with rfl | hx
    · exact ⟨0,p,rfl,rfl,rfl⟩
    · obtain ⟨j,q,h1,h2⟩:=entsOf_at hx
      exact ⟨j + 1,q,by simpa using h1,h2⟩
theorem keyvals (L:List (Int × α)):(L.map fun p=>Value.int .i64 p.1)=(L.map (·.1)).map (Value.int .i64):=by rw [List.map_map]; rfl
/-- The heap behind it. -/
def copyHeap (h:Heap) (tt e:TypeId) (cf:α→Array Value) (vf:α→Value) (mk:α→Nat→α) (L:List (Int × α)):Heap :=
  ((h++rowsOf e cf L).push (.map (entsOf vf 0 (placed mk h.size L)).toArray L.length)).push (.cells #[.map (some (h.size + L.length))] tt (0,0))

/-- What is known of a value of the new map. -/
structure EntOk (P:Program) (e:TypeId) (cf:α→Array Value) (nf:α→Nat) (vf:α→Value) (mk:α→Nat→α) (w w':World) (a:α) (val':Value) (g r:Nat) (o':Obj):Prop where
  at':w'.heap[g]?=some o'
  new:w.heap.size≤g
  clone:∃ lv',CloneOf P e (cf a) (nf a) lv' g r o'∧∀ R' nb,VR R' (.slice (some ⟨nb,0,none⟩) (nf a) (nf a)) lv'→VR R' (vf (mk a nb)) val'

theorem copies_sim {e tt:TypeId} {cf:α→Array Value} {nf:α→Nat} {vf:α→Value} {mk:α→Nat→α} (k:Rel P R (hget h) w) (s:Sim P R h w R h w') (L:List (Int × α)) (hk:(L.map (·.1)).Nodup)
    (hf:∀ p ∈ L,(∀ v ∈ cf p.2,flatV v=true)∧nf p.2 ≠ 0) {es':Array MapEntry} {ck' M' T':Nat} (hM:w'.heap[M']?=some (.map es' ck')) (hT:w'.heap[T']?=some (.cells #[.map (some M')] tt (0,0)))
    (nM:w.heap.size≤M') (nT:w.heap.size≤T') (hborn:∀ x ∈ es'.toList,x.born < ck') (hborns:(es'.toList.map (·.born)).Nodup) (hperm:(es'.toList.map (·.key)).Perm (L.map fun p=>Value.int .i64 p.1))
    (G Rr:Int→Nat) (O':Int→Obj) (hent:∀ p ∈ L,∃ x ∈ es'.toList,x.key=.int .i64 p.1∧EntOk P e cf nf vf mk w w' p.2 x.val (G p.1) (Rr p.1) (O' p.1)) (hg:(L.map fun p=>G p.1).Nodup) (hgT:∀ p ∈ L,G p.1 ≠ T') :
    ∃ R1,Sim P R h w R1 (copyHeap h tt e cf vf mk L) w'∧VR R1 (.pointer (some ⟨h.size + L.length + 1,0,none⟩)) (.pointer (some ⟨T',0,none⟩)):=by
  let items:List Item:=L.map fun p=>⟨.cells (cf p.2) e (1,1),G p.1,some (tsz P e,Rr p.1),O' p.1⟩
  have hitems:items=L.map fun p=>⟨.cells (cf p.2) e (1,1),G p.1,some (tsz P e,Rr p.1),O' p.1⟩:=rfl
  have hlen:items.length=L.length:=by rw [hitems,List.length_map]
  have cells:∀ p ∈ L,∃ c1 e1 fr1,O' p.1=.cells c1 e1 fr1:=fun p hp=>by
    obtain ⟨x,_,_,q⟩:=hent p hp
    obtain ⟨lv',q1,_⟩:=q.clone
    obtain ⟨c1,e1,fr1,q2,_⟩:=q1.row
    exact ⟨c1,e1,fr1,q2⟩
  have gat:∀ p ∈ L,w'.heap[G p.1]?=some (O' p.1)∧w.heap.size≤G p.1:=fun p hp=>by
    obtain ⟨x,_,_,q⟩:=hent p hp
    exact ⟨q.at',q.new⟩
  have s1:=Sim.many items s (fun i hi=>by
    rw [hitems] at hi
    obtain ⟨p,hp,rfl⟩:=List.mem_map.1 hi
    obtain ⟨x,_,_,q⟩:=hent p hp
    obtain ⟨lv',q1,_⟩:=q.clone
    obtain ⟨a1,a2⟩:=q1.item (hf p hp).1
    exact ⟨a1,q.at',a2,q.new,fun b hb=>by have h1:R.map b=some (G p.1):=hb; have:=(k.lt h1).2; have:=q.new; omega⟩) (by rw [hitems,List.map_map]; exact hg)
  have hrows:(items.map (·.o)).toArray=rowsOf e cf L:=by rw [hitems,List.map_map]; rfl
  rw [hrows] at s1
  have hsz:(h++rowsOf e cf L).size=h.size + L.length:=by simp [rowsOf]
  -- where the rows lie
  have hmap:∀ b g,(bindAll R h.size items).map b=some g→(∃ p ∈ L,g=G p.1) ∨ R.map b=some g:=by
    intro b g hb
    rw [bindAll_map] at hb
    split at hb
    · rw [hitems,List.getElem?_map,Option.map_map,Option.map_eq_some_iff] at hb
      obtain ⟨p,hp,rfl⟩:=hb
      exact .inl ⟨p,List.mem_of_getElem? hp,rfl⟩
    · exact .inr hb
  have s2:=s1.more (o:=.map (entsOf vf 0 (placed mk h.size L)).toArray L.length) (o':=.map es' ck') (g:=M') (sl:=none) ⟨rfl,fun _ _ q=>by cases q⟩ (fun b hb=>by
    rcases hmap b M' hb with ⟨p,hp,e1⟩ | q
    · obtain ⟨c1,e1',fr1,q⟩:=cells p hp
      rw [e1,(gat p hp).1,q] at hM; cases hM
    · have:=(k.lt q).2; omega) hM ⟨es',ck',rfl,by
    refine ⟨fun x hx=>?_,?_,?_,fun x hx x' hx' hkk=>?_,hborn,hborns⟩
    · obtain ⟨j,p,_,q,_⟩:=entsOf_at (by simpa using hx); exact ⟨_,q⟩
    · rw [List.toList_toArray,entsOf_keys,keyvals,placed_keys]
      exact hk.map _ fun a b q=>by simpa using q
    · rw [List.toList_toArray,entsOf_keys,keyvals,placed_keys,← keyvals]
      exact hperm
    · obtain ⟨j,q,hq,hkey,hval⟩:=entsOf_at (by simpa using hx)
      rw [placed_at] at hq
      obtain ⟨p,hp,rfl⟩:=Option.map_eq_some_iff.1 hq
      have hjl:j < L.length:=(List.getElem?_eq_some_iff.1 hp).1
      obtain ⟨y,hy,hyk,ok⟩:=hent p (List.mem_of_getElem? hp)
      have hapart:(es'.toList.map (·.key)).Nodup:=hperm.nodup_iff.2 (by
        rw [keyvals]
        exact hk.map _ fun a b q=>by simpa using q)
      have hxy:x'=y:=by
        obtain ⟨i1,h1⟩:=List.mem_iff_getElem?.1 hx'
        obtain ⟨i2,h2⟩:=List.mem_iff_getElem?.1 hy
        have e1:(es'.toList.map (·.key))[i1]?=some (Value.int .i64 p.1):=by rw [List.getElem?_map,h1]; simp [hkk,hkey]
        have e2:(es'.toList.map (·.key))[i2]?=some (Value.int .i64 p.1):=by rw [List.getElem?_map,h2]; simp [hyk]
        have l1:=(List.getElem?_eq_some_iff.1 e1).1
        have:=(List.getElem?_inj l1 hapart).1 (e1.trans e2.symm)
        subst this
        rw [h1] at h2; cases h2; rfl
      subst hxy
      obtain ⟨lv',q1,q2⟩:=ok.clone
      rw [hval]
      refine q2 _ _ (q1.vr (hf p (List.mem_of_getElem? hp)).2 ?_ ?_)
      · simp only [Ren.bind]
        rw [if_neg (by omega),bindAll_map,if_pos (by omega),hitems,List.getElem?_map,show h.size + j - h.size=j by omega,hp]; rfl
      · simp only [Ren.bind]
        rw [if_neg (by omega),bindAll_slack,if_pos (by omega),hitems,List.getElem?_map,show h.size + j - h.size=j by omega,hp]; rfl⟩ nM
  have hsz2:((h++rowsOf e cf L).push (.map (entsOf vf 0 (placed mk h.size L)).toArray L.length)).size=h.size + L.length + 1:=by rw [Array.size_push,hsz]
  have s3:=s2.more (o:=.cells #[.map (some (h.size + L.length))] tt (0,0)) (o':=.cells #[.map (some M')] tt (0,0)) (g:=T') (sl:=none) ⟨rfl,fun _ _ q=>by cases q⟩ (fun b hb=>by
    simp only [Ren.bind] at hb
    split at hb
    · cases hb; rw [hM] at hT; cases hT
    · rcases hmap b T' hb with ⟨p,hp,e1⟩ | q
      · exact hgT p hp e1.symm
      · have:=(k.lt q).2; omega) hT ⟨#[.map (some M')],tt,(0,0),rfl,Nat.le_refl _,fun i v hv=>by
    obtain ⟨rfl,rfl⟩:i=0∧v=.map (some (h.size + L.length)):=by
      match i,hv with
      | 0,hv=>exact ⟨rfl,by simpa using hv.symm⟩
      | i + 1,hv=>simp at hv
    refine ⟨_,rfl,?_⟩
    rw [VR_map]
    exact ⟨M',rfl,.inr (by simp only [Ren.bind]; rw [if_neg (by omega),if_pos hsz.symm])⟩,fun _ _=>rfl⟩ nT
  refine ⟨_,s3,?_⟩
  rw [VR_ptr]
  exact ⟨_,rfl,rfl,rfl,.inr ⟨by simp only [Ren.bind]; rw [if_pos hsz2.symm],rfl⟩⟩
theorem copyHeap_ext {e tt:TypeId} {cf:α→Array Value} {vf:α→Value} {mk:α→Nat→α} (L:List (Int × α)):Ext h (copyHeap h tt e cf vf mk L):=by
  intro b o hb
  have hl:=(Array.getElem?_eq_some_iff.1 hb).1
  unfold copyHeap
  rw [Array.getElem?_push,if_neg (by simp [rowsOf]; omega),Array.getElem?_push,if_neg (by simp [rowsOf]; omega),Array.getElem?_append,if_pos hl]; exact hb
theorem copyHeap_tab {e tt:TypeId} {cf:α→Array Value} {vf:α→Value} {mk:α→Nat→α} (L:List (Int × α)):(copyHeap h tt e cf vf mk L)[h.size + L.length + 1]?=some (.cells #[.map (some (h.size + L.length))] tt (0,0)):=by
  unfold copyHeap
  rw [Array.getElem?_push,if_pos (by simp [rowsOf]; omega)]
theorem copyHeap_map {e tt:TypeId} {cf:α→Array Value} {vf:α→Value} {mk:α→Nat→α} (L:List (Int × α)) (hk:(L.map (·.1)).Nodup):MapAt (copyHeap h tt e cf vf mk L) (Value.int .i64) vf (h.size + L.length) (placed mk h.size L):=by
  refine ⟨(entsOf vf 0 (placed mk h.size L)).toArray,L.length,?_,?_,?_,?_,?_⟩
  · unfold copyHeap
    rw [Array.getElem?_push,if_neg (by simp [rowsOf]),Array.getElem?_push,if_pos (by simp [rowsOf])]
  · rw [List.toList_toArray,entsOf_pairs]
  · rw [placed_keys]; exact hk
  · intro x hx
    have:=((entsOf_born vf 0 (placed mk h.size L)).1 x (by simpa using hx)).2
    have e1:(placed mk h.size L).length=L.length:=by rw [← List.length_map (f:=fun p:Int × α=>p.1),placed_keys,List.length_map]
    omega
  · rw [List.toList_toArray]; exact (entsOf_born vf 0 (placed mk h.size L)).2
theorem copyHeap_row {e tt:TypeId} {cf:α→Array Value} {vf:α→Value} {mk:α→Nat→α} (L:List (Int × α)) {i:Nat} {p:Int × α} (hp:L[i]?=some p):(copyHeap h tt e cf vf mk L)[h.size + i]?=some (.cells (cf p.2) e (1,1)):=by
  have hl:=(List.getElem?_eq_some_iff.1 hp).1
  unfold copyHeap
  rw [Array.getElem?_push,if_neg (by simp [rowsOf]; omega),Array.getElem?_push,if_neg (by simp [rowsOf]; omega),Array.getElem?_append,if_neg (by omega),show h.size + i - h.size=i by omega]
  unfold rowsOf
  rw [List.getElem?_toArray,List.getElem?_map,hp]; rfl
/-- What a copy leaves behind, in a world. -/
structure CopyPost (P:Program) (R:Ren) (h:Heap) (w:World) (e tt:TypeId) (cf:α→Array Value) (nf:α→Nat) (vf:α→Value) (mk:α→Nat→α) (L:List (Int × α)) (w':World) (T' M':Nat) (es':Array MapEntry) (ck':Nat) (G Rr:Int→Nat) (O':Int→Obj):Prop where
  sim:Sim P R h w R h w'
  atM:w'.heap[M']?=some (.map es' ck')
  atT:w'.heap[T']?=some (.cells #[.map (some M')] tt (0,0))
  newM:w.heap.size≤M'
  newT:w.heap.size≤T'
  born:∀ x ∈ es'.toList,x.born < ck'
  borns:(es'.toList.map (·.born)).Nodup
  perm:(es'.toList.map (·.key)).Perm (L.map fun p=>Value.int .i64 p.1)
  ents:∀ p ∈ L,∃ x ∈ es'.toList,x.key=.int .i64 p.1∧EntOk P e cf nf vf mk w w' p.2 x.val (G p.1) (Rr p.1) (O' p.1)
  apart:(L.map fun p=>G p.1).Nodup
  off:∀ p ∈ L,G p.1 ≠ T'
theorem copy_sound {f:FuncId} {e tt tt0:TypeId} {cf:α→Array Value} {nf:α→Nat} {vf:α→Value} {mk:α→Nat→α} {t:Nat} {c0:Array Value} {L:List (Int × α)} (hr:h[t]?=some (.cells c0 tt0 (0,0))) (hk:(L.map (·.1)).Nodup)
    (hf:∀ p ∈ L,(∀ v ∈ cf p.2,flatV v=true)∧nf p.2 ≠ 0)
    (hc:∀ (R:Ren) (w:World) (t':Nat),Rel P R (hget h) w→R.map t=some t'→Calls P f #[.pointer (some ⟨t',0,none⟩)] w fun e' w'=>∃ T' M' es' ck' G Rr O',e'=.returned (.pointer (some ⟨T',0,none⟩))∧CopyPost P R h w e tt cf nf vf mk L w' T' M' es' ck' G Rr O') :
    SoundCall P f #[.pointer (some ⟨t,0,none⟩)] h (.pointer (some ⟨h.size + L.length + 1,0,none⟩)) (copyHeap h tt e cf vf mk L):=by
  refine sound_of_calls fun R w args' k ha=>?_
  obtain ⟨x',rfl,hx⟩:=arr_one ha
  rw [VR_ptr] at hx
  obtain ⟨a,rfl,s1,s2,hp⟩:=hx
  have hm:R.map t=some a.block∧a.off=0:=by
    rcases hp with q | q
    · have:=(k.dead t q).2
      simp only [hget,hr,deadRow,Option.some.injEq,Obj.cells.injEq] at this
      exact absurd this.2.2 (by decide)
    · exact q
  have ea:a=⟨a.block,0,none⟩:=by
    obtain ⟨x1,x2,x3⟩:=a
    simp only at s2 hm
    rw [s2,hm.2]
  rw [ea]
  refine (hc R w a.block k hm.1).mono ?_
  rintro e' w' ⟨T',M',es',ck',G,Rr,O',rfl,q⟩
  obtain ⟨R1,g1,g2⟩:=copies_sim k q.sim L hk hf q.atM q.atT q.newM q.newT q.born q.borns q.perm G Rr O' q.ents q.apart q.off
  exact ⟨R1,_,rfl,g1,g2⟩
end

/-- One row alone is told; all else is dead. -/
def pickH (h:Heap) (p:Nat):Heap:=Array.ofFn fun i:Fin h.size=>if i.1=p then h[i.1] else deadRow
def Ren.pick (R:Ren) (h:Heap) (p:Nat):Ren:={ map:=fun b=>if b=p then R.map b else none,slack:=R.slack,dead:=fun b=>decide (b < h.size) && decide (b ≠ p),ghost:=R.ghost }
theorem pickH_size (h:Heap) (p:Nat):(pickH h p).size=h.size:=by simp [pickH]
theorem pickH_at (h:Heap) (p:Nat):(pickH h p)[p]?=h[p]?:=by
  by_cases hp:p < h.size
  · rw [Array.getElem?_eq_getElem (by rw [pickH_size]; exact hp),Array.getElem?_eq_getElem hp]
    simp [pickH]
  · rw [Array.getElem?_eq_none (by rw [pickH_size]; omega),Array.getElem?_eq_none (by omega)]
theorem pickH_off {h:Heap} {p b:Nat} (hb:b < h.size) (hne:b ≠ p):(pickH h p)[b]?=some deadRow:=by
  rw [Array.getElem?_eq_getElem (by rw [pickH_size]; exact hb)]
  simp [pickH,hne]
theorem pick_map {R:Ren} {h:Heap} {p b g:Nat} (hb:(R.pick h p).map b=some g):b=p∧R.map b=some g:=by
  simp only [Ren.pick] at hb
  split at hb
  · exact ⟨by assumption,hb⟩
  · cases hb

section
variable {P : Program} {R R2 : Ren} {h h2 : Heap} {w w' : World} {p : Nat} {c : Array Value} {e : TypeId}
theorem Rel.aliveRow (k:Rel P R (hget h) w) {fr:Nat × Nat} (hr:h[p]?=some (.cells c e fr)) (hf:fr ≠ (2,2)):R.dead p=false:=by
  cases hd:R.dead p with
  | false=>rfl
  | true =>
    have:=(k.dead p hd).2
    simp only [hget,hr,deadRow,Option.some.injEq,Obj.cells.injEq] at this
    exact absurd this.2.2 hf
theorem Rel.pick (k:Rel P R (hget h) w) (hr:h[p]?=some (.cells c e (1,1))) (hc:∀ v ∈ c,flatV v=true):Rel P (R.pick h p) (hget (pickH h p)) w:=by
  refine ⟨fun b b' g hb hb'=>k.inj _ _ _ (pick_map hb).2 (pick_map hb').2,fun b g hb=>?_,fun b hb=>?_,fun g hg=>?_⟩
  · obtain ⟨rfl,hb1⟩:=pick_map hb
    obtain ⟨o,o',q1,q2,q3,q4⟩:=k.obj b g hb1
    simp only [hget,hr,Option.some.injEq] at q1
    subst q1
    exact ⟨_,o',by rw [hget,pickH_at,hr],q2,q3.steady fun v hv=>steady_flat (hc v hv),q4⟩
  · simp only [Ren.pick,Bool.and_eq_true,decide_eq_true_eq] at hb
    exact ⟨by simp only [Ren.pick]; rw [if_neg hb.2],by rw [hget]; exact pickH_off hb.1 hb.2⟩
  · have hlt:g < h.size:=by
      rcases k.glob g hg with q | q
      · exact k.dead_lt q
      · exact (k.lt q).1
    by_cases hgp:g=p
    · subst hgp
      refine .inr ?_
      simp only [Ren.pick,if_true]
      exact (k.glob g hg).resolve_left (by rw [k.aliveRow hr (by decide)]; decide)
    · exact .inl (by simp [Ren.pick,hlt,hgp])
theorem pick_slice (k:Rel P R (hget h) w) (hr:h[p]?=some (.cells c e (1,1))) {n cp:Nat} {v':Value} (hv:VR R (.slice (some ⟨p,0,none⟩) n cp) v'):VR (R.pick h p) (.slice (some ⟨p,0,none⟩) n cp) v':=by
  have hd:=k.aliveRow hr (by decide)
  rw [VR_slice] at hv ⊢
  have e1:(R.pick h p).map p=R.map p:=by simp [Ren.pick]
  have e2:(R.pick h p).dead p=R.dead p:=by simp [Ren.pick,hd]
  obtain ⟨a',c',rfl,q⟩:=hv
  refine ⟨a',c',rfl,?_⟩
  unfold SAR CapR GhR at q ⊢
  simp only [e1,e2] at q ⊢
  exact q
/-- The row that was told is as it was. -/
theorem Sim.alivePick (k:Rel P R (hget h) w) (s:Sim P (R.pick h p) (pickH h p) w R2 h2 w') (he:Ext (pickH h p) h2) (hr:h[p]?=some (.cells c e (1,1))) {g:Nat} (hb:R.map p=some g):R2.map p=some g∧R2.slack p=R.slack p∧R2.dead p=false∧h2[p]?=some (.cells c e (1,1)):=by
  have h1:h2[p]?=some (.cells c e (1,1)):=he _ _ (by rw [pickH_at,hr])
  have hm:(R.pick h p).map p=some g:=by simp only [Ren.pick,if_true]; exact hb
  have nd:¬ R2.dead p=true:=fun w=>by
    have:=(s.rel.dead p w).2
    simp only [hget,h1,deadRow,Option.some.injEq,Obj.cells.injEq] at this
    exact absurd this.2.2 (by decide)
  exact ⟨(s.le.map p g hm).resolve_right nd,(s.le.slack p g hm).resolve_right nd,by simpa using nd,h1⟩
/-- What such a call leaves behind, without what is new. -/
theorem Sim.forgetPick (k:Rel P R (hget h) w) (s:Sim P (R.pick h p) (pickH h p) w R2 h2 w') (he:Ext (pickH h p) h2) (hr:h[p]?=some (.cells c e (1,1))) (hc:∀ v ∈ c,flatV v=true):Sim P R h w R h w':=by
  have key:∀ b g,R.map b=some g→∃ o o',hget h b=some o∧w'.heap[g]?=some o'∧ObjR R o o'∧SlackOk P (R.slack b) o o':=by
    intro b g hb
    by_cases hpb:b=p
    · subst hpb
      obtain ⟨a1,a2,a3,a4⟩:=Sim.alivePick k s he hr hb
      obtain ⟨o,o',q1,q2,q3,q4⟩:=s.rel.obj b g a1
      simp only [hget,a4,Option.some.injEq] at q1
      subst q1
      exact ⟨_,o',hr,q2,q3.steady fun v hv=>steady_flat (hc v hv),a2 ▸ q4⟩
    · obtain ⟨o,o',q1,q2,q3,q4⟩:=k.obj b g hb
      refine ⟨o,o',q1,?_,q3,q4⟩
      rw [← q2]
      exact s.conc g (k.lt hb).2 fun b' hb'=>by
        obtain ⟨rfl,hb2⟩:=pick_map hb'
        exact hpb (k.inj _ _ _ hb hb2)
  exact ⟨⟨k.inj,key,k.dead,k.glob⟩,.refl R,Nat.le_refl _,fun _ _ _=>rfl,fun _ _ e=>⟨e,rfl⟩,s.os,s.tape,s.output,s.wsz,fun g hg hn=>s.conc g hg fun b hb=>hn b (pick_map hb).2,fun _ _ e=>.inl e,
    fun g hg hs=>s.shape g hg fun b hb=>hs b (pick_map hb).2⟩
theorem Sim.freshPick (k:Rel P R (hget h) w) (s:Sim P (R.pick h p) (pickH h p) w R2 h2 w') (he:Ext (pickH h p) h2) (hr:h[p]?=some (.cells c e (1,1))) {b g:Nat} (hb:R2.map b=some g) (hn:h.size≤b):w.heap.size≤g:=by
  have hp:=(Array.getElem?_eq_some_iff.1 hr).1
  rcases s.newc b g hb with q | ⟨_,q | ⟨b0,q,_⟩⟩
  · have:=(pick_map q).1; omega
  · exact q
  · obtain ⟨rfl,q1⟩:=pick_map q
    have:=(Sim.alivePick k s he hr q1).1
    have:=s.rel.inj _ _ _ hb this
    omega
theorem clone_ofPick (s:Sim P (R.pick h p) (pickH h p) w R2 h2 w') {b n:Nat} {e':TypeId} {cc:Array Value} (hr:h2[b]?=some (.cells cc e' (1,1))) (hc:∀ v ∈ cc,flatV v=true)
    (hfr:∀ g,R2.map b=some g→w.heap.size≤g) (hn:n ≠ 0) {v':Value} (hv:VR R2 (.slice (some ⟨b,0,none⟩) n n) v'):∃ g r o',w'.heap[g]?=some o'∧w.heap.size≤g∧CloneOf P e' cc n v' g r o':=by
  have nd:¬ R2.dead b=true:=fun w=>by
    have:=(s.rel.dead b w).2
    simp only [hget,hr,deadRow,Option.some.injEq,Obj.cells.injEq] at this
    exact absurd this.2.2 (by decide)
  rw [VR_slice] at hv
  obtain ⟨a',c',rfl,hq⟩:=hv
  rcases hq with ⟨⟨_,h2',hm⟩,hcap⟩ | ⟨_,h0,_⟩
  · obtain ⟨hm,ho⟩:=hm.resolve_left nd
    have ho:a'.off=0:=ho.resolve_right fun q=>hn q.1
    obtain ⟨o,o',q1,q2,q3,q4,q5⟩:=s.rel.obj b a'.block hm
    simp only [hget,hr,Option.some.injEq] at q1
    subst q1
    cases hsl:R2.slack b with
    | none=>rw [hsl] at q4; simp [isSlack] at q4
    | some x =>
      obtain ⟨z,r⟩:=x
      obtain ⟨⟨c0,e0,e1,hz⟩,c1,e2,fr1,rfl,hs,hf⟩:=q5 z r hsl
      cases e1
      obtain ⟨c3,e3,fr3,e4,g1,g2,_⟩:=q3
      cases e4
      have ea:a'=⟨a'.block,0,none⟩:=by
        obtain ⟨x1,x2,x3⟩:=a'
        simp only at h2' ho
        rw [h2',ho]
      refine ⟨a'.block,r,_,q2,hfr _ hm,⟨c',by rw [ea],?_⟩,c1,e2,fr1,rfl,hs,by omega,fun i v hv=>?_,hf⟩
      · rcases hcap with q | ⟨z',r',q,_,l1,l2⟩ | q
        · exact .inl q
        · simp only [hsl,Option.some.injEq,Prod.mk.injEq] at q
          obtain ⟨rfl,rfl⟩:=q
          refine .inr ⟨l1,?_⟩
          rw [← hz]; simpa using l2
        · exact absurd q nd
      · obtain ⟨v',w1,w2⟩:=g2 i v hv
        rw [w1,flatV_eq (hc v (Array.mem_of_getElem? hv)) w2]
  · exact absurd h0 hn
/-- The world goes on beside what was there. -/
theorem Sim.beside (k:Rel P R (hget h) w) (s:Sim P R h w R h w') {w2:World} (hs:∀ g,g < w.heap.size→w2.heap[g]?=w'.heap[g]?) (h1:w2.os=w'.os) (h2:w2.tape=w'.tape) (h3:w2.output=w'.output) (h4:w'.heap.size≤w2.heap.size):Sim P R h w R h w2:=by
  refine ⟨⟨s.rel.inj,fun b g hb=>?_,s.rel.dead,s.rel.glob⟩,s.le,s.hsz,s.canon,s.old,h1.trans s.os,h2.trans s.tape,h3.trans s.output,Nat.le_trans s.wsz h4,fun g hg hn=>(hs g hg).trans (s.conc g hg hn),s.newc,fun g hg hn=>by rw [hs g hg]; exact s.shape g hg hn⟩
  obtain ⟨o,o',q1,q2,q3⟩:=s.rel.obj b g hb
  exact ⟨o,o',q1,(hs g (k.lt hb).2).trans q2,q3⟩
theorem calls_of_sound {f:FuncId} {args:Array Value} {v:Value} {h1:Heap} (hs:SoundCall P f args h v h1) {args':Array Value} (k:Rel P R (hget h) w) (ha:ArrR (VR R) args args') :
    Calls P f args' w fun e w'=>∃ R1 v',e=.returned v'∧Sim P R h w R1 h1 w'∧VR R1 v v' :=
  (callsIn_wide (n:=0)).1 (hs R w args' k ha _ (fun R1 _ v' s hv=>⟨R1,v',rfl,s,hv⟩) 0 none)
end

/-- A value as it lies in a map, held as it is. -/
def heldR (v:Value):Option (DataW Value × List MemPlace):=some (.held v,[])

section
variable {P : Program} {R : Ren} {h : Heap} {w : World} {α : Type}
/-- The map M', to which T' leads, is being filled: what is not left of L has come. -/
structure Filling (P:Program) (R:Ren) (h:Heap) (w:World) (e tt:TypeId) (cf:α→Array Value) (nf:α→Nat) (vf:α→Value) (mk:α→Nat→α) (L:List (Int × α)) (T' M' r':Nat) (left:Lit→Bool) (W:World)
    (es:Array MapEntry) (ck:Nat) (G Rr:Int→Nat) (O':Int→Obj):Prop where
  sim:Sim P R h w R h W
  atM:W.heap[M']?=some (.map es ck)
  atT:W.heap[T']?=some (.cells #[.map (some M')] tt (0,0))
  newM:w.heap.size≤M'
  newT:w.heap.size≤T'
  born:∀ x ∈ es.toList,x.born < ck
  borns:(es.toList.map (·.born)).Nodup
  keys:(es.toList.map (·.key)).Nodup
  only:∀ x ∈ es.toList,∃ p ∈ L,x.key=.int .i64 p.1∧left (.int .i64 p.1)=false
  ents:∀ p ∈ L,left (.int .i64 p.1)=false→∃ x ∈ es.toList,x.key=.int .i64 p.1∧EntOk P e cf nf vf mk w W p.2 x.val (G p.1) (Rr p.1) (O' p.1)
  apart:∀ p ∈ L,∀ q ∈ L,left (.int .i64 p.1)=false→left (.int .i64 q.1)=false→G p.1=G q.1→p.1=q.1
  off:∀ p ∈ L,left (.int .i64 p.1)=false→G p.1 ≠ T'∧G p.1 ≠ r'

variable {e tt : TypeId} {cf : α → Array Value} {nf : α → Nat} {vf : α → Value} {mk : α → Nat → α} {L : List (Int × α)} {T' M' r' : Nat} {left : Lit → Bool} {W W2 : World} {es : Array MapEntry} {ck : Nat} {G Rr : Int → Nat} {O' : Int → Obj}
theorem EntOk.keep {a:α} {v:Value} {g r:Nat} {o:Obj} (k:EntOk P e cf nf vf mk w W a v g r o) (hs:W2.heap[g]?=W.heap[g]?):EntOk P e cf nf vf mk w W2 a v g r o:=⟨hs.trans k.at',k.new,k.clone⟩
theorem filling_start (s:Sim P R h w R h W) (hM:W.heap[M']?=some (.map #[] 0)) (hT:W.heap[T']?=some (.cells #[.map (some M')] tt (0,0))) (nM:w.heap.size≤M') (nT:w.heap.size≤T') (hl:∀ p ∈ L,left (.int .i64 p.1)=true) :
    Filling P R h w e tt cf nf vf mk L T' M' r' left W #[] 0 (fun _=>0) (fun _=>0) (fun _=>deadRow) :=
  ⟨s,hM,hT,nM,nT,by simp,by simp,by simp,by simp,fun p hp q=>absurd q (by rw [hl p hp]; decide),fun p hp _ _ q=>absurd q (by rw [hl p hp]; decide),fun p hp q=>absurd q (by rw [hl p hp]; decide)⟩
theorem Filling.keep (k:Rel P R (hget h) w) (f:Filling P R h w e tt cf nf vf mk L T' M' r' left W es ck G Rr O') (hs:∀ g,g < W.heap.size→g ≠ r'→W2.heap[g]?=W.heap[g]?) (hr:w.heap.size≤r') (hMr:M' ≠ r') (hTr:T' ≠ r') (h1:W2.os=W.os) (h2:W2.tape=W.tape) (h3:W2.output=W.output) (h4:W.heap.size≤W2.heap.size) :
    Filling P R h w e tt cf nf vf mk L T' M' r' left W2 es ck G Rr O':=by
  have lt:∀ {g:Nat} {o:Obj},W.heap[g]?=some o→g < W.heap.size:=fun q=>(Array.getElem?_eq_some_iff.1 q).1
  refine ⟨f.sim.beside k (fun g hg=>hs g (Nat.lt_of_lt_of_le hg f.sim.wsz) (by omega)) h1 h2 h3 h4,(hs _ (lt f.atM) hMr).trans f.atM,(hs _ (lt f.atT) hTr).trans f.atT,f.newM,f.newT,f.born,f.borns,f.keys,f.only,fun p hp hl=>?_,f.apart,f.off⟩
  obtain ⟨x,hx,hk,q⟩:=f.ents p hp hl
  exact ⟨x,hx,hk,q.keep (hs _ (lt q.at') (f.off p hp hl).2)⟩
/-- A call that leaves what is told as it is, and all that is new. -/
theorem Filling.call (f:Filling P R h w e tt cf nf vf mk L T' M' r' left W es ck G Rr O') (s:Sim P R h W R h W2) (hs:∀ g,w.heap.size≤g→g < W.heap.size→W2.heap[g]?=W.heap[g]?):Filling P R h w e tt cf nf vf mk L T' M' r' left W2 es ck G Rr O':=by
  have lt:∀ {g:Nat} {o:Obj},W.heap[g]?=some o→g < W.heap.size:=fun q=>(Array.getElem?_eq_some_iff.1 q).1
  refine ⟨f.sim.trans s,(hs _ f.newM (lt f.atM)).trans f.atM,(hs _ f.newT (lt f.atT)).trans f.atT,f.newM,f.newT,f.born,f.borns,f.keys,f.only,fun p hp hl=>?_,f.apart,f.off⟩
  obtain ⟨x,hx,hk,q⟩:=f.ents p hp hl
  exact ⟨x,hx,hk,q.keep (hs _ q.new (lt q.at'))⟩
/-- An entry comes in. -/
theorem Filling.put (k:Rel P R (hget h) w) (f:Filling P R h w e tt cf nf vf mk L T' M' r' left W es ck G Rr O') {p:Int × α} (hp:p ∈ L) (hl:left (.int .i64 p.1)=true) {val':Value} {g r:Nat} {o':Obj} (hk:(L.map (·.1)).Nodup)
    (q:EntOk P e cf nf vf mk w W p.2 val' g r o') (hg:∀ q ∈ L,left (.int .i64 q.1)=false→G q.1 ≠ g) (hgT:g ≠ T') (hgr:g ≠ r') {left2:Lit→Bool} (hl2:∀ z:Int,left2 (.int .i64 z)=(left (.int .i64 z) && !decide (z=p.1)))
    (hM:W2.heap[M']?=some (.map (es.push ⟨.int .i64 p.1,val',ck⟩) (ck + 1))) (hs:∀ g,g ≠ M'→W2.heap[g]?=W.heap[g]?) (h1:W2.os=W.os) (h2:W2.tape=W.tape) (h3:W2.output=W.output) (h4:W.heap.size≤W2.heap.size) :
    Filling P R h w e tt cf nf vf mk L T' M' r' left2 W2 (es.push ⟨.int .i64 p.1,val',ck⟩) (ck + 1) (fun z=>if z=p.1 then g else G z) (fun z=>if z=p.1 then r else Rr z) (fun z=>if z=p.1 then o' else O' z):=by
  have cM:∀ {g:Nat} {c:Array Value} {e:TypeId} {fr:Nat × Nat},W.heap[g]?=some (.cells c e fr)→g ≠ M':=fun q e=>by rw [e,f.atM] at q; cases q
  have ecell:∀ {a:α} {v:Value} {g r:Nat} {o:Obj},EntOk P e cf nf vf mk w W a v g r o→g ≠ M':=fun q=>by
    obtain ⟨lv',q1,_⟩:=q.clone
    obtain ⟨c1,e1,fr1,q2,_⟩:=q1.row
    exact cM (by rw [q.at',q2])
  have same:∀ q ∈ L,q.1=p.1→q=p:=fun q hq e=>by
    obtain ⟨i,hi⟩:=List.mem_iff_getElem?.1 hq
    obtain ⟨j,hj⟩:=List.mem_iff_getElem?.1 hp
    have e1:(L.map (·.1))[i]?=some p.1:=by rw [List.getElem?_map,hi]; simp [e]
    have e2:(L.map (·.1))[j]?=some p.1:=by rw [List.getElem?_map,hj]; simp
    have:=(List.getElem?_inj (List.getElem?_eq_some_iff.1 e1).1 hk).1 (e1.trans e2.symm)
    subst this
    rw [hi] at hj; cases hj; rfl
  have was:∀ q ∈ L,q.1 ≠ p.1→left2 (.int .i64 q.1)=false→left (.int .i64 q.1)=false:=fun q _ hne hf=>by
    rw [hl2] at hf; simpa [hne] using hf
  refine ⟨f.sim.beside k (fun g hg=>hs g (by have:=f.newM; omega)) h1 h2 h3 h4,hM,(hs _ (cM f.atT)).trans f.atT,f.newM,f.newT,fun x hx=>?_,?_,?_,fun x hx=>?_,fun y hy hf=>?_,fun a ha b hb hfa hfb hab=>?_,fun y hy hf=>?_⟩
  · simp only [Array.toList_push,List.mem_append,List.mem_singleton] at hx
    rcases hx with hx | rfl
    · have:=f.born x hx; omega
    · show ck < ck + 1; omega
  · rw [Array.toList_push,List.map_append,List.nodup_append]
    refine ⟨f.borns,by simp,fun a ha b hb=>?_⟩
    obtain ⟨x,hx,rfl⟩:=List.mem_map.1 ha
    have:=f.born x hx
    have:b=ck:=by simpa using hb
    omega
  · rw [Array.toList_push,List.map_append,List.nodup_append]
    refine ⟨f.keys,by simp,fun a ha b hb=>?_⟩
    obtain ⟨x,hx,rfl⟩:=List.mem_map.1 ha
    obtain ⟨y,hy,hyk,hyl⟩:=f.only x hx
    have eb:b=.int .i64 p.1:=by simpa using hb
    rw [eb,hyk]
    intro ee
    have e2:y.1=p.1:=by simpa using ee
    rw [e2,hl] at hyl; cases hyl
  · simp only [Array.toList_push,List.mem_append,List.mem_singleton] at hx
    rcases hx with hx | rfl
    · obtain ⟨y,hy,hyk,hyl⟩:=f.only x hx
      exact ⟨y,hy,hyk,by rw [hl2,hyl]; rfl⟩
    · exact ⟨p,hp,rfl,by rw [hl2]; simp⟩
  · by_cases hyp:y.1=p.1
    · have:=same y hy hyp
      subst this
      refine ⟨⟨.int .i64 y.1,val',ck⟩,by simp,rfl,?_⟩
      rw [if_pos rfl,if_pos rfl,if_pos rfl]
      exact q.keep (hs g (ecell q))
    · obtain ⟨x,hx,hxk,ok⟩:=f.ents y hy (was y hy hyp hf)
      refine ⟨x,by simp [hx],hxk,?_⟩
      rw [if_neg hyp,if_neg hyp,if_neg hyp]
      exact ok.keep (hs _ (ecell ok))
  · by_cases ea:a.1=p.1 <;> by_cases eb:b.1=p.1
    · exact ea.trans eb.symm
    · simp only [if_pos ea,if_neg eb] at hab
      exact absurd hab.symm (hg b hb (was b hb eb hfb))
    · simp only [if_neg ea,if_pos eb] at hab
      exact absurd hab (hg a ha (was a ha ea hfa))
    · simp only [if_neg ea,if_neg eb] at hab
      exact f.apart a ha b hb (was a ha ea hfa) (was b hb eb hfb) hab
  · by_cases hyp:y.1=p.1
    · simp only [if_pos hyp]; exact ⟨hgT,hgr⟩
    · simp only [if_neg hyp]; exact f.off y hy (was y hy hyp hf)
/-- All have come. -/
theorem Filling.post (f:Filling P R h w e tt cf nf vf mk L T' M' r' left W es ck G Rr O') (hk:(L.map (·.1)).Nodup) (hl:∀ kl,left kl=false):CopyPost P R h w e tt cf nf vf mk L W T' M' es ck G Rr O':=by
  have hk2:(L.map fun p=>Value.int .i64 p.1).Nodup:=by rw [keyvals]; exact hk.map _ fun a b q=>by simpa using q
  refine ⟨f.sim,f.atM,f.atT,f.newM,f.newT,f.born,f.borns,?_,fun p hp=>f.ents p hp (hl _),?_,fun p hp=>(f.off p hp (hl _)).1⟩
  · refine (List.perm_ext_iff_of_nodup f.keys hk2).2 fun v=>⟨fun hv=>?_,fun hv=>?_⟩
    · obtain ⟨x,hx,rfl⟩:=List.mem_map.1 hv
      obtain ⟨p,hp,e,_⟩:=f.only x hx
      exact List.mem_map.2 ⟨p,hp,e.symm⟩
    · obtain ⟨p,hp,rfl⟩:=List.mem_map.1 hv
      obtain ⟨x,hx,e,_⟩:=f.ents p hp (hl _)
      exact List.mem_map.2 ⟨x,hx,e⟩
  · have:∀ {l:List (Int × α)},(∀ p ∈ l,p ∈ L)→(l.map (·.1)).Nodup→(l.map fun p=>G p.1).Nodup:=by
      intro l
      induction l with
      | nil=>intro _ _; simp
      | cons a l ih =>
        intro hs hn
        rw [List.map_cons,List.nodup_cons] at hn ⊢
        refine ⟨fun hm=>?_,ih (fun p hp=>hs p (List.mem_cons_of_mem _ hp)) hn.2⟩
        obtain ⟨b,hb,e⟩:=List.mem_map.1 hm
        have:=f.apart b (hs b (List.mem_cons_of_mem _ hb)) a (hs a (List.mem_cons_self ..)) (hl _) (hl _) e
        exact hn.1 (List.mem_map.2 ⟨b,hb,this⟩)
    exact this (fun _ hp=>hp) hk
end
open Go.Maps (Keyed)
open Go.ChangeShapes Go.WideShapes Go.MapKept
open Go.WideElems (Fit rd rg rd_key rd_val rg_of)

section
variable {P : Program} {R : Ren} {h : Heap} {w : World} {α : Type} {vf : α → Value} {L : List (Int × α)} {mb b' : Nat} {kt : TypeId}
theorem key_reads (hk:P.underlying kt=some (.int .i64)) {z:Int} (hz:(Lit.int .i64 z).wf=true):keyOf P kt (.int .i64 z)=some (.int .i64 z):=by simp [keyOf,hk,mapKey,hz]
theorem key_lit (hk:P.underlying kt=some (.int .i64)) {v:Value} {kl:Lit} (h:keyOf P kt v=some kl):∃ z,v=.int .i64 z∧kl=.int .i64 z∧(Lit.int .i64 z).wf=true:=Maps.keyOf_int_inv hk h
/-- The map as the world holds it. -/
theorem map_source (k:Rel P R (hget h) w) (hb:BR R mb b') (hm:MapAt h (Value.int .i64) vf mb L) (hk:P.underlying kt=some (.int .i64)) (small:∀ p ∈ L,(Lit.int .i64 p.1).wf=true) (few:L.length≤1000000) :
    ∃ n D0,w.ownsMap P kt heldR b' n D0∧R.map mb=some b'∧Maps.size D0=L.length∧(∀ p ∈ L,Maps.has D0 (.int .i64 p.1)=true)∧(∀ z v',(Lit.int .i64 z).wf=true→Maps.has D0 (.int .i64 z)=true→(∀ zd,D0.atKey (.int .i64 z) zd=.held v')→∃ p ∈ L,p.1=z∧VR R (vf p.2) v'):=by
  obtain ⟨es,ck,hr,M⟩:=hm
  obtain ⟨hmap,es',ck',q1,q2,_⟩:=k.mapObj hb hr
  have K:Keyed P kt:=Maps.int_keyed hk
  have pairs:∀ x ∈ es.toList,∃ p ∈ L,x.key=.int .i64 p.1∧x.val=vf p.2:=fun x hx=>by
    have:=M.perm.mem_iff.1 (List.mem_map_of_mem (f:=fun e:MapEntry=>(e.key,e.val)) hx)
    obtain ⟨p,hp,e⟩:=List.mem_map.1 this
    simp only [Prod.mk.injEq] at e
    exact ⟨p,hp,e.1.symm,e.2.symm⟩
  have pairs2:∀ p ∈ L,∃ x ∈ es.toList,x.key=.int .i64 p.1:=fun p hp=>by
    have:=M.perm.mem_iff.2 (List.mem_map_of_mem (f:=fun p:Int × α=>(Value.int .i64 p.1,vf p.2)) hp)
    obtain ⟨x,hx,e⟩:=List.mem_map.1 this
    simp only [Prod.mk.injEq] at e
    exact ⟨x,hx,e.1⟩
  have other:∀ x' ∈ es'.toList,∃ p ∈ L,x'.key=.int .i64 p.1∧VR R (vf p.2) x'.val:=fun x' hx'=>by
    obtain ⟨x,hx,e⟩:=q2.other' hx'
    obtain ⟨p,hp,e1,e2⟩:=pairs x hx
    exact ⟨p,hp,e.symm.trans e1,e2 ▸ q2.vals x hx x' hx' e.symm⟩
  have other2:∀ p ∈ L,∃ x' ∈ es'.toList,x'.key=.int .i64 p.1:=fun p hp=>by
    obtain ⟨x,hx,e⟩:=pairs2 p hp
    obtain ⟨x',hx',e'⟩:=q2.other hx
    exact ⟨x',hx',e'.trans e⟩
  have len:es'.size=L.length:=by
    have h1:=q2.perm.length_eq
    have h2:=M.perm.length_eq
    simp only [List.length_map,Array.length_toList] at h1 h2
    omega
  have readx:∀ x' ∈ es'.toList,∀ {z:Int},x'.key=.int .i64 z→(Lit.int .i64 z).wf=true→rd P kt heldR x'=some (.int .i64 z,.held x'.val):=fun x' _ z e hz=>by
    unfold rd
    rw [e,key_reads hk hz]
    rfl
  have F:Fit P kt heldR es' ck':=⟨by unfold maxLen; omega,⟨q2.born,q2.borns,q2.apart'⟩,fun x hx=>by
    obtain ⟨p,hp,e,_⟩:=other x hx
    exact ⟨_,readx x hx e (small p hp)⟩⟩
  have mem:∀ x' ∈ es'.toList,rg P kt heldR x' ∈ (es'.toList.map (rg P kt heldR)).foldr DataW.insert []:=fun x' hx'=>mem_sorted.2 (List.mem_map_of_mem hx')
  refine ⟨es'.size,.map ((es'.toList.map (rg P kt heldR)).foldr DataW.insert []),⟨es',ck',q1,F,Nat.le_refl _,rfl⟩,hmap,?_,fun p hp=>?_,fun z v' hz hh hat=>?_⟩
  · rw [Maps.size_eq,length_sorted,List.length_map,Array.length_toList,len]
  · obtain ⟨x',hx',e⟩:=other2 p hp
    rw [Maps.has_eq]
    refine List.any_eq_true.2 ⟨_,mem x' hx',?_⟩
    rw [rg_of (readx x' hx' e (small p hp))]
    exact WideAt.sameKey_self (K.key (key_reads hk (small p hp)))
  · rw [Maps.has_eq] at hh
    obtain ⟨y,hy,hs⟩:=List.any_eq_true.1 hh
    obtain ⟨x',hx',rfl⟩:=List.mem_map.1 (mem_sorted.1 hy)
    obtain ⟨p,hp,e,hv⟩:=other x' hx'
    have e1:=WideAt.sameKey_eq hs
    rw [rg_of (readx x' hx' e (small p hp))] at e1
    have ez:p.1=z:=by simpa using e1
    have hat2:=(atKey_sorted (es'.toList.map (rg P kt heldR)) (Maps.fit_rising K F) (.int .i64 z) (K.key (key_reads hk hz))).2 _ (List.mem_map_of_mem hx') (by rw [rg_of (readx x' hx' e (small p hp)),ez]) .nil
    rw [hat .nil,rg_of (readx x' hx' e (small p hp))] at hat2
    have:v'=x'.val:=by simpa using hat2
    exact ⟨p,hp,ez,this ▸ hv⟩
/-- `m[k] = v`, the key being new. -/
theorem update_new {t e:TypeId} (hk:P.underlying kt=some (.int .i64)) (ht:P.underlying t=some (.map kt e)) {b ck:Nat} {es:Array MapEntry} (hb:w.heap[b]?=some (.map es ck)) (small:∀ x ∈ es.toList,∃ z,x.key=.int .i64 z∧(Lit.int .i64 z).wf=true)
    {z:Int} (hz:(Lit.int .i64 z).wf=true) (hn:∀ x ∈ es.toList,x.key ≠ .int .i64 z) (val:Value):(Instr.mapUpdate t (.map (some b)) (.int .i64 z) val).run P w=.ok () (ChangeMaps.setBlock w b (.map (es.push ⟨.int .i64 z,val,ck⟩) (ck + 1))):=by
  have K:Keyed P kt:=Maps.int_keyed hk
  have hkey:=key_reads (P:=P) hk hz
  rcases K.find w hkey es.toList (fun x hx=>by obtain ⟨y,e1,e2⟩:=small x hx; exact ⟨_,by rw [e1]; exact key_reads hk e2⟩) with ⟨h1,_⟩ | ⟨j,e0,_,h2,h3⟩
  · simp [Instr.mapUpdate,run_underlying ht,MapKept.run_getObj_map hb,K.check w false hkey,h1,MapKept.run_setObj_map _ hb,Result.andThen,ChangeMaps.setBlock]
  · exact absurd h3 (hn e0 (List.mem_of_getElem? h2))
end
end Go.AM
