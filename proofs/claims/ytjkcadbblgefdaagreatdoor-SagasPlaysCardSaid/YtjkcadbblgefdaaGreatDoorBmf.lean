/- An abstract machine for Go, part 32: what an argument that can be read holds, in the canonical heap. -/
import Derived.Test.YtjkcadbblgefdaaGreatDoorBme
import Derived.OpenShut
import Derived.Deep.Slices
import Derived.DataReads
import Derived.ChangeArms
namespace Go.AM
open Go.Deep

section
variable {H : Type} {enc : TypeId × Value → H} {P : Program} {W : World}

/-- Some cells can be read at a type. -/
def Reads (enc:TypeId × Value→H) (P:Program) (W:World) (t:TypeId) (cs:List Value):Prop:=∃ fuel x,DataW.trod enc P W 0 (fun _=>true) true fuel t cs=some x

theorem reads_bool {t:TypeId} {cs:List Value} (ht:P.underlying t=some .bool) (h:Reads enc P W t cs):∃ b,cs=[.bool b]:=by
  obtain ⟨fuel,x,h⟩:=h
  cases fuel with
  | zero=>simp [DataW.trod] at h
  | succ n =>
    unfold DataW.trod at h
    rw [ht] at h
    split at h <;> simp_all
theorem reads_int {t:TypeId} {k:IntKind} {cs:List Value} (ht:P.underlying t=some (.int k)) (h:Reads enc P W t cs):∃ n,cs=[.int k n]∧k.min≤n∧n≤k.max:=by
  obtain ⟨fuel,x,h⟩:=h
  cases fuel with
  | zero=>simp [DataW.trod] at h
  | succ n =>
    unfold DataW.trod at h
    rw [ht] at h
    split at h <;> simp_all
    simpa [Lit.wf] using h.1.2
theorem reads_string {t:TypeId} {cs:List Value} (ht:P.underlying t=some .string) (h:Reads enc P W t cs):∃ s,cs=[.string s]∧s.size≤maxLen:=by
  obtain ⟨fuel,x,h⟩:=h
  cases fuel with
  | zero=>simp [DataW.trod] at h
  | succ n =>
    unfold DataW.trod at h
    rw [ht] at h
    split at h <;> simp_all
theorem reads_slice {t e:TypeId} {cs:List Value} (ht:P.underlying t=some (.slice e)) (h:Reads enc P W t cs) :
    cs=[.slice none 0 0] ∨ ∃ a len cap,cs=[.slice (some a) len cap]∧len≤cap∧cap≤maxLen∧∀ i,i < cap→∃ cs',W.cells? 0 (a.add (i * P.cellsOf e)) (P.cellsOf e)=some cs'∧Reads enc P W e cs':=by
  obtain ⟨fuel,x,h⟩:=h
  rcases open_slice ht h with q | ⟨a,len,cap,m,n,D,Pl,q1,q2,q3,q4,q5,q6,q7⟩
  · exact .inl q.1
  · simp only [if_true] at q5
    exact .inr ⟨a,len,cap,q1,q3,q4,fun i hi=>let ⟨cs',w1,w2⟩:=q7 i (by omega); ⟨cs',w1,n,_,w2⟩⟩

/-- The places within a type that are of one cell. -/
def leaves (P:Program):Nat→TypeId→Nat→List (Nat × TypeId)
  | 0,_,_=>[]
  | n + 1,t,o=>match P.underlying t with
    | some (.struct fs)=>fs.toList.flatMap fun f=>leaves P n f.type (o + f.offset)
    | some .bool | some (.int _) | some .string | some (.slice _)=>[(o,t)]
    | _=>[]

theorem reads_one {t:TypeId} {cs:List Value} (h:Reads enc P W t cs) (ht:P.underlying t=some .bool ∨ (∃ k,P.underlying t=some (.int k)) ∨ P.underlying t=some .string ∨ ∃ e,P.underlying t=some (.slice e)):∃ v,cs=[v]:=by
  rcases ht with ht | ⟨k,ht⟩ | ht | ⟨e,ht⟩
  · obtain ⟨b,q⟩:=reads_bool ht h; exact ⟨_,q⟩
  · obtain ⟨b,q,_⟩:=reads_int ht h; exact ⟨_,q⟩
  · obtain ⟨b,q,_⟩:=reads_string ht h; exact ⟨_,q⟩
  · rcases reads_slice ht h with q | ⟨_,_,_,q,_⟩
    · exact ⟨_,q⟩
    · exact ⟨_,q⟩

theorem reads_leaves:∀ (n:Nat) (t:TypeId) (o:Nat) (cs:List Value),Reads enc P W t cs→∀ q ∈ leaves P n t o,∃ o' v,q.1=o + o'∧cs[o']?=some v∧Reads enc P W q.2 [v]
  | 0,t,o,cs,_,q,hq=>by cases hq
  | n + 1,t,o,cs,h,q,hq=>by
    unfold leaves at hq
    split at hq
    · rename_i fs hfs
      obtain ⟨f,hf,hq⟩:=List.mem_flatMap.1 hq
      obtain ⟨fuel,x,h⟩:=h
      obtain ⟨xs,m,_,_,hl,hxl,hx⟩:=DataW.trod_struct hfs h
      obtain ⟨i,hi,hfi⟩:=List.getElem_of_mem hf
      have hfi':fs[i]?=some f:=by rw [← hfi]; simp at hi; simp [hi]
      have:=hx i f hfi'
      have hil:i < xs.length:=by simp at hi; omega
      rw [List.getElem?_eq_getElem hil] at this
      obtain ⟨o',v,w1,w2,w3⟩:=reads_leaves n f.type (o + f.offset) _ ⟨m,_,this⟩ q hq
      refine ⟨f.offset + o',v,by omega,?_,w3⟩
      rw [List.getElem?_take] at w2
      split at w2
      · rw [List.getElem?_drop] at w2; exact w2
      · cases w2
    all_goals first
      | (cases hq; done)
      | (rename_i ht
         have hq':q=(o,t):=by simpa using hq
         subst hq'
         obtain ⟨v,rfl⟩:=reads_one h (by first | exact .inl ht | exact .inr (.inl ⟨_,ht⟩) | exact .inr (.inr (.inl ht)) | exact .inr (.inr (.inr ⟨_,ht⟩)))
         exact ⟨0,v,rfl,rfl,h⟩)
theorem reads_size {t:TypeId} {fs:Array Field} {cs:List Value} (ht:P.underlying t=some (.struct fs)) (h:Reads enc P W t cs):cs.length=P.cellsOf t:=by
  obtain ⟨fuel,x,h⟩:=h
  obtain ⟨xs,m,_,_,hl,_⟩:=DataW.trod_struct ht h
  exact hl
/-- A cell of a struct that can be read. -/
theorem reads_at {t:TypeId} {cs:List Value} (n:Nat) {o:Nat} {u:TypeId} (h:Reads enc P W t cs) (hm:((leaves P n t 0).contains (o,u))=true):∃ v,cs[o]?=some v∧Reads enc P W u [v]:=by
  obtain ⟨o',v,h1,h2,h3⟩:=reads_leaves n t 0 cs h (o,u) (by simpa using hm)
  simp only [Nat.zero_add] at h1
  subst h1
  exact ⟨v,h2,h3⟩

/-- The address of an empty slice. -/
def emptyAt:Value→Option Addr
  | .slice (some a) 0 0=>some a
  | _=>none
/-- The addresses of all empty slices that a world and some arguments hold. -/
def badL (W:World) (args:Array Value):List Addr :=
  ((args.toList.flatMap fun v=>v.cells.toList)++(W.heap.toList.flatMap fun o=>match o with
    | .cells c _ _=>c.toList
    | _=>[])).filterMap emptyAt
/-- What a value's being an empty slice asks of the list. -/
def Listed (L:List Addr) (v:Value):Prop:=∀ a,emptyAt v=some a→a ∈ L

theorem listed_arg {args:Array Value} {v u:Value} (hv:v ∈ args) (hu:u ∈ v.cells):Listed (badL W args) u:=fun a ha=>by
  refine List.mem_filterMap.2 ⟨u,List.mem_append.2 (.inl (List.mem_flatMap.2 ⟨v,by simpa using hv,by simpa using hu⟩)),ha⟩
theorem listed_heap {args:Array Value} {b:Nat} {c:Array Value} {e:TypeId} {fr:Nat × Nat} {u:Value} (hb:W.heap[b]?=some (.cells c e fr)) (hu:u ∈ c):Listed (badL W args) u:=fun a ha=>by
  refine List.mem_filterMap.2 ⟨u,List.mem_append.2 (.inr (List.mem_flatMap.2 ⟨_,Array.mem_toList_iff.2 (Array.mem_of_getElem? hb),by simpa using hu⟩)),ha⟩

theorem cells_row {a:Addr} {n:Nat} {cs:List Value} (h:W.cells? 0 a n=some cs) (hn:n ≠ 0):∃ c e fr,W.heap[a.block]?=some (.cells c e fr)∧a.spot=none∧a.off + n≤c.size∧cs.length=n∧∀ j,j < n→cs[j]?=c[a.off + j]?:=by
  obtain ⟨_,hl,hc⟩:=World.cells?_some h
  have h0:=hc 0 (by omega)
  rw [List.getElem?_eq_getElem (by omega)] at h0
  have hs:a.spot=none:=by
    cases hq:a.spot with
    | none=>rfl
    | some z =>
      exfalso
      have:(a.add 0).spot.isSome=true:=by simp [Addr.add,hq]
      simp only [World.cell?] at h0
      split at h0
      · rw [if_pos this] at h0; cases h0
      · cases h0
  have cell:∀ i,W.cell? (a.add i)=(match W.heap[a.block]? with
    | some (.cells c _ _)=>c[a.off + i]?
    | _=>none):=by
    intro i
    rw [addr_add a hs]
    simp only [World.cell?]
    split <;> simp_all
  rw [cell] at h0
  split at h0
  · rename_i c e fr hb
    refine ⟨c,e,fr,hb,hs,?_,hl,fun j hj=>?_⟩
    · have:=hc (n - 1) (by omega)
      rw [cell,hb,List.getElem?_eq_getElem (by omega)] at this
      have:=(Array.getElem?_eq_some_iff.1 this).1
      omega
    · have:=hc j hj
      rw [cell,hb] at this
      exact this.symm
  · cases h0

theorem flat_of {α:Type} {f:α→Array Value} {Q:α→Prop} (g:Nat→Array Value):∀ n,(∀ i,i < n→∃ x,f x=g i∧Q x)→∃ xs:List α,xs.length=n∧(∀ x ∈ xs,Q x)∧∀ i x,xs[i]?=some x→f x=g i
  | 0,_=>⟨[],rfl,fun x hx=>(by cases hx),fun i x hx=>(by simp at hx)⟩
  | n + 1,h=>by
    obtain ⟨xs,h1,h2,h3⟩:=flat_of g n fun i hi=>h i (by omega)
    obtain ⟨x,hx,hq⟩:=h n (by omega)
    refine ⟨xs++[x],by simp [h1],fun y hy=>?_,fun i y hy=>?_⟩
    · rcases List.mem_append.1 hy with q | q
      · exact h2 y q
      · rw [List.mem_singleton.1 q]; exact hq
    · rw [List.getElem?_append] at hy
      split at hy
      · exact h3 i y hy
      · rename_i hi
        have:i=n:=by
          have:=(List.getElem?_eq_some_iff.1 hy).1
          simp at this; omega
        subst this
        have e0:i - xs.length=0:=by omega
        rw [e0] at hy
        simp only [List.getElem?_cons_zero,Option.some.injEq] at hy
        subst hy; exact hx

theorem canonFr_live (fr:Nat × Nat):canonFr fr ≠ (2,2):=by
  unfold canonFr
  split
  · simp
  · rename_i h; exact fun q=>h (.inr q)

/-- A slice that can be read holds a list, in the canonical heap. -/
theorem bridge_slice {α:Type} {f:α→Array Value} {Q:α→Prop} {z:Nat} {L:List Addr} {t e:TypeId} {v:Value} (ht:P.underlying t=some (.slice e)) (hz:P.cellsOf e=z) (hz0:z ≠ 0) (hf:∀ x,(f x).size=z) (h:Reads enc P W t [v]) (hv:Listed L v)
    (hq:∀ cs,Reads enc P W e cs→(∀ u ∈ cs,∃ (b:Nat) (c:Array Value) (e:TypeId) (fr:Nat × Nat),W.heap[b]?=some (Obj.cells c e fr)∧u ∈ c)→∃ x,f x=(cs.map (canonV W L)).toArray∧Q x) :
    ∃ (xs:List α) (sa:Option Addr) (cp:Nat),canonV W L v=.slice sa xs.length cp∧SliceAt (heap0 W L) f z xs (.slice sa xs.length cp)∧xs.length≤maxLen∧∀ x ∈ xs,Q x:=by
  rcases reads_slice ht h with q | ⟨a,len,cap,q,hlc,hcm,hel⟩
  · cases q
    exact ⟨[],none,0,by simp [canonV],.inl ⟨rfl,rfl⟩,by simp,fun x hx=>(by cases hx)⟩
  · cases q
    rw [hz] at hel
    by_cases hok:okAddr W a=true
    · have hc:canonV W L (.slice (some a) len cap)=.slice (some a) len cap:=by rw [canonV,if_pos hok]
      simp only [okAddr,Bool.and_eq_true,Option.isNone_iff_eq_none] at hok
      obtain ⟨hs,hrow⟩:=hok
      split at hrow
      · rename_i c e0 fr hb
        have hoff:a.off≤c.size:=by simpa using hrow
        have hlt:a.block < W.heap.size:=(Array.getElem?_eq_some_iff.1 hb).1
        have hb0:(heap0 W L)[a.block]?=some (.cells (c.map (canonV W L)) e0 (canonFr fr)):=by rw [heap0_old hlt,hb]; rfl
        have ha:a=⟨a.block,a.off,none⟩:=by cases a; simp_all
        have each:∀ i,i < len→∃ x,f x=(c.map (canonV W L)).extract (a.off + i * z) (a.off + i * z + z)∧Q x:=by
          intro i hi
          obtain ⟨cs',h1,h2⟩:=hel i (by omega)
          obtain ⟨c2,e2,fr2,g1,g2,g3,g4,g5⟩:=cells_row h1 hz0
          rw [addr_add a hs] at g1 g3 g5
          simp only at g1 g3 g5
          rw [hb] at g1
          cases g1
          obtain ⟨x,hx,hQ⟩:=hq cs' h2 fun u hu=>by
            obtain ⟨j,hj,rfl⟩:=List.getElem_of_mem hu
            have:=g5 j (by omega)
            rw [List.getElem?_eq_getElem hj] at this
            exact ⟨_,_,_,_,hb,Array.mem_of_getElem? this.symm⟩
          refine ⟨x,?_,hQ⟩
          rw [hx]
          apply Array.ext_getElem?
          intro j
          rw [Array.getElem?_extract]
          simp only [List.getElem?_toArray,List.getElem?_map,Array.getElem?_map]
          by_cases hj:j < z
          · rw [if_pos (by simp; omega),g5 j hj]
          · rw [if_neg (by omega),List.getElem?_eq_none (by omega)]; rfl
        obtain ⟨xs,hxl,hxq,hxg⟩:=flat_of (fun i=>(c.map (canonV W L)).extract (a.off + i * z) (a.off + i * z + z)) len each
        subst hxl
        have hfit:a.off + xs.length * z≤c.size:=by
          by_cases h0:xs.length=0
          · rw [h0]; omega
          · obtain ⟨cs',h1,_⟩:=hel (xs.length - 1) (by omega)
            obtain ⟨c2,e2,fr2,g1,g2,g3,_⟩:=cells_row h1 hz0
            rw [addr_add a hs] at g1 g3
            simp only at g1 g3
            rw [hb] at g1
            cases g1
            have:xs.length * z=(xs.length - 1) * z + z:=by
              obtain ⟨k,hk⟩:∃ k,xs.length=k + 1:=⟨xs.length - 1,by omega⟩
              rw [hk,Nat.succ_mul]; simp
            omega
        refine ⟨xs,some a,cap,hc,.inr ⟨a.block,a.off,cap,_,_,_,by rw [← ha],⟨hb0,canonFr_live fr,hlc,by simpa using hfit,?_⟩⟩,by omega,hxq⟩
        have hsz:=flat_size hf xs
        apply Array.ext_getElem?
        intro k
        rw [Array.getElem?_extract]
        by_cases hk:k < xs.length * z
        · rw [if_pos (by simp; omega)]
          have hqlt:k / z < xs.length:=by rw [Nat.div_lt_iff_lt_mul (by omega)]; exact hk
          have hm:k % z < z:=Nat.mod_lt _ (by omega)
          have hdm:k=k / z * z + k % z:=by rw [Nat.mul_comm]; exact (Nat.div_add_mod k z).symm
          have g1:=flat_get hf xs (k / z) (k % z) _ (List.getElem?_eq_getElem hqlt) hm
          rw [← hdm] at g1
          rw [g1,hxg _ _ (List.getElem?_eq_getElem hqlt),Array.getElem?_extract,if_pos (by
            have:k / z * z + z≤xs.length * z:=by
              have:=Nat.mul_le_mul_right z (show k / z + 1≤xs.length from hqlt)
              rw [Nat.succ_mul] at this; exact this
            simp; omega)]
          congr 1; omega
        · rw [if_neg (by omega),Array.getElem?_eq_none (by omega)]
      · cases hrow
    · have hcap:cap=0:=by
        by_cases h0:cap=0
        · exact h0
        · exfalso
          obtain ⟨cs',h1,_⟩:=hel 0 (by omega)
          obtain ⟨c2,e2,fr2,g1,g2,g3,_⟩:=cells_row h1 hz0
          have hs:a.spot=none:=by
            cases hq:a.spot with
            | none=>rfl
            | some _=>simp [Addr.add,hq] at g2
          rw [addr_add a hs] at g1 g3
          simp only at g1 g3
          refine hok ?_
          simp only [okAddr,hs,g1,Option.isNone_none,Bool.true_and,decide_eq_true_eq]
          omega
      have hlen:len=0:=by omega
      subst hcap; subst hlen
      have hmem:a ∈ L:=hv a rfl
      refine ⟨[],some ⟨W.heap.size + L.idxOf a,0,none⟩,0,by rw [canonV,if_neg hok,if_pos ⟨rfl,rfl,hmem⟩]; rfl,.inr ⟨_,0,0,#[],0,(0,0),rfl,⟨?_,by decide,by simp,by simp,by simp [flat]⟩⟩,by simp,fun x hx=>(by cases hx)⟩
      simp only [heap0]
      rw [Array.getElem?_append,if_neg (by simp)]
      have:=List.idxOf_lt_length_of_mem hmem
      simp [this]
end
end Go.AM
