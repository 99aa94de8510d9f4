/- An abstract machine for Go, part 22 again: the same where the world's rows hold functions by name, which stay as they are. -/
import Derived.Test.YtjkcadbblgefdaaGreatDoorAmu
import Derived.Below
namespace Go.AM
open Go.RowKit

/-- The address of a cell of a row that there is. -/
def okAddr (W:World) (a:Addr):Bool:=a.spot.isNone && match W.heap[a.block]? with
  | some (.cells c _ _)=>decide (a.off≤c.size)
  | _=>false

/-- A function by name, with nothing bound to it. -/
def plainFn:Fn→Array Value→Array Value→Bool
  | .func _,a,b=>a.isEmpty && b.isEmpty
  | _,_,_=>false
theorem plainFn_spec {f:Fn} {a b:Array Value} (h:plainFn f a b=true):∃ g,f=.func g∧a=#[]∧b=#[]:=by
  unfold plainFn at h
  split at h
  · simp at h; exact ⟨_,rfl,h.1,h.2⟩
  · cases h

/-- The canonical form of a value of a world: L lists addresses of empty slices that lead nowhere. -/
def canonV (W:World) (L:List Addr):Value→Value
  | .pointer (some a)=>if okAddr W a then .pointer (some a) else .iface 0 (.pointer (some a))
  | .slice (some a) n c=>if okAddr W a then .slice (some a) n c else if n=0∧c=0∧a ∈ L then .slice (some ⟨W.heap.size + L.idxOf a,0,none⟩) 0 0 else .iface 0 (.slice (some a) n c)
  | .agg cs=>.agg (cs.map fun c=>canonV W L c)
  | .tuple cs=>.tuple (cs.map fun c=>canonV W L c)
  | .map (some r)=>.iface 0 (.map (some r))
  | .chan r=>.iface 0 (.chan r)
  | .func f a b=>if plainFn f a b then .func f a b else .iface 0 (.func f a b)
  | .iface t v=>.iface 0 (.iface t v)
  | v=>v

def canonFr (fr:Nat × Nat):Nat × Nat:=if fr=(1,1) ∨ fr=(2,2) then (0,0) else fr
def canonObj (W:World) (L:List Addr):Obj→Obj
  | .cells c e fr=>.cells (c.map (canonV W L)) e (canonFr fr)
  | _=>.cells #[] 0 (0,0)
def isRow:Option Obj→Bool
  | some (.cells ..)=>true
  | _=>false
def heap0 (W:World) (L:List Addr):Heap:=W.heap.map (canonObj W L)++(L.map fun _=>Obj.cells #[] 0 (0,0)).toArray
def ren0 (W:World) (L:List Addr):Ren :=
  { map:=fun b=>if isRow W.heap[b]? then some b else none,slack:=fun _=>none,dead:=fun _=>false,
    ghost:=fun b=>if W.heap.size≤b then L[b - W.heap.size]? else none }

section
variable {P : Program} {W : World} {L : List Addr}

theorem okAddr_spec {a:Addr} (h:okAddr W a=true):a.spot=none∧(ren0 W L).map a.block=some a.block:=by
  simp only [okAddr,Bool.and_eq_true,Option.isNone_iff_eq_none] at h
  refine ⟨h.1,?_⟩
  simp only [ren0]
  rw [if_pos]
  unfold isRow
  have:=h.2
  split at this
  · rename_i q; simp only [q]
  · cases this

theorem idxOf_get {a:Addr}:∀ {l:List Addr},a ∈ l→l[l.idxOf a]?=some a
  | [],h=>by cases h
  | x :: l,h=>by
    rw [List.idxOf_cons]
    by_cases e:x=a
    · subst e; simp
    · have:(x == a)=false:=by simpa using e
      rw [this]
      simp only [cond_false,List.getElem?_cons_succ]
      exact idxOf_get ((List.mem_cons.1 h).resolve_left fun q=>e q.symm)

theorem ghost_spec {a:Addr} (h:a ∈ L):(ren0 W L).ghost (W.heap.size + L.idxOf a)=some a:=by
  simp only [ren0]
  rw [if_pos (by omega),Nat.add_sub_cancel_left,idxOf_get h]

theorem canonV_VR (v:Value):VR (ren0 W L) (canonV W L v) v:=by
  match v with
  | .pointer (some a) =>
    rw [canonV]
    split
    · rename_i h; rw [VR_ptr]; obtain ⟨h1,h2⟩:=okAddr_spec (L:=L) h; exact ⟨a,rfl,h1,h1,.inr ⟨h2,rfl⟩⟩
    · rw [VR_tok]; exact ⟨rfl,rfl⟩
  | .slice (some a) n c =>
    rw [canonV]
    split
    · rename_i h; rw [VR_slice]; obtain ⟨h1,h2⟩:=okAddr_spec (L:=L) h; exact ⟨a,c,rfl,.inl ⟨⟨h1,h1,.inr ⟨h2,.inl rfl⟩⟩,.inl rfl⟩⟩
    · split
      · rename_i h; obtain ⟨rfl,rfl,h⟩:=h; rw [VR_slice]; exact ⟨a,0,rfl,.inr ⟨ghost_spec h,rfl,rfl,rfl,rfl,rfl⟩⟩
      · rw [VR_tok]; exact ⟨rfl,rfl⟩
  | .agg cs =>
    rw [canonV,VR_agg]
    refine ⟨cs,rfl,by simp,fun i u u' hu hu'=>?_⟩
    simp only [Array.getElem?_map,Option.map_eq_some_iff] at hu
    obtain ⟨x,hx,rfl⟩:=hu
    rw [hu'] at hx; cases hx
    have:SizeOf.sizeOf u' < SizeOf.sizeOf cs:=Array.sizeOf_lt_of_mem (Array.mem_of_getElem? hu')
    exact canonV_VR u'
  | .tuple cs =>
    rw [canonV,VR_tuple]
    refine ⟨cs,rfl,by simp,fun i u u' hu hu'=>?_⟩
    simp only [Array.getElem?_map,Option.map_eq_some_iff] at hu
    obtain ⟨x,hx,rfl⟩:=hu
    rw [hu'] at hx; cases hx
    have:SizeOf.sizeOf u' < SizeOf.sizeOf cs:=Array.sizeOf_lt_of_mem (Array.mem_of_getElem? hu')
    exact canonV_VR u'
  | .bool b=>simp [canonV]
  | .int k n=>simp [canonV]
  | .float k n=>simp [canonV]
  | .complex k n m=>simp [canonV]
  | .string s=>simp [canonV]
  | .pointer none=>simp [canonV]
  | .slice none n c=>simp [canonV]
  | .map none=>simp [canonV]
  | .nilFunc=>simp [canonV]
  | .nilIface=>simp [canonV]
  | .map (some r)=>rw [canonV,VR_tok]; exact ⟨rfl,rfl⟩
  | .chan r=>rw [canonV,VR_tok]; exact ⟨rfl,rfl⟩
  | .func f a b =>
    rw [canonV]
    split
    · rename_i h; obtain ⟨g,rfl,rfl,rfl⟩:=plainFn_spec h; rw [VR_func]; exact ⟨_,_,_,rfl,rfl,⟨rfl,fun i v v' q=>by simp at q⟩,⟨rfl,fun i v v' q=>by simp at q⟩⟩
    · rw [VR_tok]; exact ⟨rfl,rfl⟩
  | .iface t u=>rw [canonV,VR_tok]; exact ⟨rfl,rfl⟩

theorem inFr_canon (fr:Nat × Nat) (i:Nat):inFr fr i=inFr (canonFr fr) i:=by
  unfold canonFr
  split
  · rename_i h
    rcases h with rfl | rfl <;> simp [inFr] <;> omega
  · rfl

theorem isSlack_canon (c:Array Value) (e:TypeId) (fr:Nat × Nat):isSlack (some (.cells c e (canonFr fr)))=false:=by
  simp only [isSlack,decide_eq_false_iff_not]
  unfold canonFr
  split
  · simp
  · rename_i h; exact fun q=>h (.inl q)

theorem heap0_size:(heap0 W L).size=W.heap.size + L.length:=by simp [heap0]
theorem heap0_old {b:Nat} (h:b < W.heap.size):(heap0 W L)[b]?=(W.heap[b]?).map (canonObj W L):=by
  simp only [heap0]
  rw [Array.getElem?_append,if_pos (by simpa using h),Array.getElem?_map]

theorem rel0 (hG:∀ g ∈ globList,isRow W.heap[g]?=true):Rel P (ren0 W L) (hget (heap0 W L)) W:=by
  refine ⟨?_,?_,?_,fun g hg=>.inr (by simp only [ren0]; rw [if_pos (hG g hg)])⟩
  · intro b b' g h h'
    simp only [ren0] at h h'
    split at h; · split at h'; · (cases h; cases h'; rfl)
                  · cases h'
    · cases h
  · intro b g h
    simp only [ren0] at h
    split at h
    · rename_i hr
      cases h
      cases ho:W.heap[b]? with
      | none=>rw [ho] at hr; cases hr
      | some o =>
        have hlt:=(Array.getElem?_eq_some_iff.1 ho).1
        refine ⟨canonObj W L o,o,by simp only [hget]; rw [heap0_old hlt,ho]; rfl,rfl,?_,?_⟩
        · cases o with
          | cells c e fr =>
            refine ⟨c,e,fr,rfl,by simp,fun i v hv=>?_,fun i _=>inFr_canon fr i⟩
            simp only [Array.getElem?_map,Option.map_eq_some_iff] at hv
            obtain ⟨x,hx,rfl⟩:=hv
            exact ⟨x,hx,canonV_VR x⟩
          | _=>rw [ho] at hr; cases hr
        · cases o with
          | cells c e fr=>exact ⟨isSlack_canon _ _ _,fun z r q=>by cases q⟩
          | _=>rw [ho] at hr; cases hr
    · cases h
  · intro b h; cases h

/-- What is kept where a run turns none of the first blocks. -/
structure Keeps (W:World) (L:List Addr) (R1:Ren):Prop where
  map:∀ b,isRow W.heap[b]?=true→R1.map b=some b∧R1.slack b=none∧R1.dead b=false
  ghost:R1.ghost=(ren0 W L).ghost
  free:∀ b,W.heap.size≤b→b < W.heap.size + L.length→R1.map b=none∧R1.dead b=false

theorem canonV_inj {R1:Ren} (k:Keeps W L R1) (v v':Value) (h:VR R1 (canonV W L v) v'):v'=v:=by
  match v with
  | .pointer (some a) =>
    rw [canonV] at h
    split at h
    · rename_i ho
      rw [VR_ptr] at h
      obtain ⟨a',rfl,h1,h2,h3⟩:=h
      obtain ⟨_,hm⟩:=okAddr_spec (L:=L) ho
      have hr:isRow W.heap[a.block]?=true:=by simp only [ren0] at hm; split at hm; assumption; cases hm
      obtain ⟨k1,k2,k3⟩:=k.map _ hr
      rcases h3 with q | ⟨q1,q2⟩
      · rw [k3] at q; cases q
      · rw [k1] at q1
        cases a; cases a'
        simp_all
    · rw [VR_tok] at h; exact h.1
  | .slice (some a) n c =>
    rw [canonV] at h
    split at h
    · rename_i ho
      obtain ⟨_,hm⟩:=okAddr_spec (L:=L) ho
      have hr:isRow W.heap[a.block]?=true:=by simp only [ren0] at hm; split at hm; assumption; cases hm
      obtain ⟨k1,k2,k3⟩:=k.map _ hr
      rw [VR_slice] at h
      obtain ⟨a',c',rfl,⟨⟨h1,h2,h3⟩,h4⟩ | hg⟩:=h
      · have hc:c'=c:=by
          rcases h4 with q | ⟨z,r,q,_⟩ | q
          · exact q
          · rw [k2] at q; cases q
          · rw [k3] at q; cases q
        rcases h3 with q | ⟨q1,q2⟩
        · rw [k3] at q; cases q
        · rcases q2 with q2 | ⟨_,_,q2⟩
          · rw [k1] at q1
            cases a; cases a'
            simp_all
          · exact absurd k2 q2
      · have hlt:a.block < W.heap.size:=by
          cases hx:W.heap[a.block]? with
          | none=>rw [hx] at hr; cases hr
          | some o=>exact (Array.getElem?_eq_some_iff.1 hx).1
        have:=hg.1
        rw [k.ghost] at this
        simp only [ren0] at this
        rw [if_neg (by omega)] at this
        cases this
    · split at h
      · rename_i hc
        obtain ⟨rfl,rfl,hL⟩:=hc
        have hb:=k.free (W.heap.size + L.idxOf a) (by omega) (by have:=List.idxOf_lt_length_of_mem hL; omega)
        rw [VR_slice] at h
        obtain ⟨a',c',rfl,⟨⟨h1,h2,h3⟩,h4⟩ | hg⟩:=h
        · rcases h3 with q | ⟨q1,_⟩
          · rw [hb.2] at q; cases q
          · rw [hb.1] at q1; cases q1
        · obtain ⟨q,_,_,rfl,_⟩:=hg
          rw [k.ghost,ghost_spec hL] at q
          cases q
          rfl
      · rw [VR_tok] at h; exact h.1
  | .agg cs =>
    rw [canonV,VR_agg] at h
    obtain ⟨cs',rfl,h1,h2⟩:=h
    congr 1
    apply Array.ext
    · simpa using h1
    · intro i hi hi'
      have hm:SizeOf.sizeOf cs[i] < SizeOf.sizeOf cs:=Array.sizeOf_lt_of_mem (Array.getElem_mem hi')
      exact canonV_inj k cs[i] _ (h2 i _ _ (by simp [hi']) (by simp [hi]))
  | .tuple cs =>
    rw [canonV,VR_tuple] at h
    obtain ⟨cs',rfl,h1,h2⟩:=h
    congr 1
    apply Array.ext
    · simpa using h1
    · intro i hi hi'
      have hm:SizeOf.sizeOf cs[i] < SizeOf.sizeOf cs:=Array.sizeOf_lt_of_mem (Array.getElem_mem hi')
      exact canonV_inj k cs[i] _ (h2 i _ _ (by simp [hi']) (by simp [hi]))
  | .bool b=>simpa [canonV] using h
  | .int k n=>simpa [canonV] using h
  | .float k n=>simpa [canonV] using h
  | .complex k n m=>simpa [canonV] using h
  | .string s=>simpa [canonV] using h
  | .pointer none=>simpa [canonV] using h
  | .slice none n c=>simpa [canonV] using h
  | .map none=>simpa [canonV] using h
  | .nilFunc=>simpa [canonV] using h
  | .nilIface=>simpa [canonV] using h
  | .map (some r)=>rw [canonV,VR_tok] at h; exact h.1
  | .chan r=>rw [canonV,VR_tok] at h; exact h.1
  | .func f a b =>
    rw [canonV] at h
    split at h
    · rename_i hp
      obtain ⟨g,rfl,rfl,rfl⟩:=plainFn_spec hp
      rw [VR_func] at h
      obtain ⟨f',a',b',rfl,h1,h2,h3⟩:=h
      have e1:f'=.func g:=h1
      have e2:a'=#[]:=Array.eq_empty_of_size_eq_zero h2.1
      have e3:b'=#[]:=Array.eq_empty_of_size_eq_zero h3.1
      rw [e1,e2,e3]
    · rw [VR_tok] at h; exact h.1
  | .iface t u=>rw [canonV,VR_tok] at h; exact h.1

theorem below_of_sim {R1:Ren} {h1:Heap} {W1:World} (s:Sim P (ren0 W L) (heap0 W L) W R1 h1 W1) (hk:∀ b,b < (heap0 W L).size→h1[b]?=(heap0 W L)[b]?):Below W.heap.size W W1:=by
  have keeps:Keeps W L R1:=by
    refine ⟨fun b hb=>?_,s.le.ghost,fun b h2 h3=>?_⟩
    · have hm:(ren0 W L).map b=some b:=by simp only [ren0]; rw [if_pos hb]
      have hlt:b < W.heap.size:=by
        cases hx:W.heap[b]? with
        | none=>rw [hx] at hb; cases hb
        | some o=>exact (Array.getElem?_eq_some_iff.1 hx).1
      have hd:R1.dead b=false:=by
        cases hd:R1.dead b with
        | false=>rfl
        | true =>
          have:=(s.rel.dead b hd).2
          simp only [hget] at this
          rw [hk b (by rw [heap0_size]; omega),heap0_old hlt] at this
          cases hx:W.heap[b]? with
          | none=>rw [hx] at hb; cases hb
          | some o =>
            rw [hx] at this
            cases o with
            | cells c e fr =>
              simp only [canonObj,deadRow,Option.map_some,Option.some.injEq,Obj.cells.injEq,canonFr] at this
              have h3:=this.2.2
              split at h3
              · cases h3
              · rename_i hn; exact absurd (.inr h3) hn
            | _=>rw [hx] at hb; cases hb
      refine ⟨?_,?_,hd⟩
      · rcases s.le.map b b hm with q | q
        · exact q
        · rw [hd] at q; cases q
      · rcases s.le.slack b b hm with q | q
        · exact q
        · rw [hd] at q; cases q
    · have hm:(ren0 W L).map b=none:=by
        simp only [ren0]
        rw [if_neg]
        intro q
        have:W.heap[b]?=none:=by simp; omega
        rw [this] at q; cases q
      exact s.old b (by rw [heap0_size]; omega) hm
  refine ⟨s.os,s.tape,s.output,s.wsz,fun k hklt=>?_⟩
  by_cases hr:isRow W.heap[k]?=true
  · obtain ⟨m1,m2,m3⟩:=keeps.map k hr
    have hsh:=s.shape k hklt fun b _=>rfl
    cases hx:W.heap[k]? with
    | none=>rw [hx] at hr; cases hr
    | some o =>
      cases o with
      | cells c e fr =>
        rw [hx] at hsh
        obtain ⟨c',hc',hsz⟩:=hsh
        rw [hc']
        obtain ⟨o,o',q1,q2,q3,_⟩:=s.rel.obj k k m1
        simp only [hget] at q1
        rw [hk k (by rw [heap0_size]; omega),heap0_old hklt,hx] at q1
        simp only [Option.map_some,Option.some.injEq,canonObj] at q1
        subst q1
        rw [hc'] at q2
        cases q2
        obtain ⟨c2,e2,fr2,e1,_,hv,_⟩:=q3
        cases e1
        congr 1
        congr 1
        apply Array.ext
        · exact hsz
        · intro i hi hi'
          obtain ⟨v',g1,g2⟩:=hv i (canonV W L c[i]) (by simp [hi'])
          have:=canonV_inj keeps c[i] v' g2
          rw [Array.getElem?_eq_getElem hi] at g1
          simp only [Option.some.injEq] at g1
          rw [g1,this]
      | _=>rw [hx] at hr; cases hr
  · refine s.conc k hklt fun b hb=>?_
    simp only [ren0] at hb
    split at hb
    · rename_i q; cases hb; exact hr q
    · cases hb

/-- What a canonical run says of a call in any world. -/
theorem lift_call {f:FuncId} {args:Array Value} {b:Bool} {h1:Heap} (hG:∀ g ∈ globList,isRow W.heap[g]?=true) (hs:SoundCall P f (args.map (canonV W L)) (heap0 W L) (.bool b) h1) (hk:∀ k,k < (heap0 W L).size→h1[k]?=(heap0 W L)[k]?) :
    Calls P f args W fun e W'=>e=.returned (.bool b)∧Below W.heap.size W W':=by
  rw [← callsIn_wide (n:=0)]
  refine hs (ren0 W L) W args (rel0 hG) ⟨by simp,fun i v v' hv hv'=>?_⟩ _ (fun R1 w1 v' s hv=>?_) 0 none
  · simp only [Array.getElem?_map,Option.map_eq_some_iff] at hv
    obtain ⟨x,hx,rfl⟩:=hv
    rw [hv'] at hx; cases hx
    exact canonV_VR v'
  · rw [VR_bool] at hv
    exact ⟨by rw [hv],below_of_sim s hk⟩
end
end Go.AM
