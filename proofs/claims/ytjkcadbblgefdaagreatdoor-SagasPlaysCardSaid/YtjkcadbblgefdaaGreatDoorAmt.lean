/- An abstract machine for Go, part 20: the check of a region's text, and the run of a region that draws its order. -/
import Derived.Test.YtjkcadbblgefdaaGreatDoorAms
namespace Go.AM

/-- A run in an order of one's own, with the readings that are still open. -/
def drun (P:Program) (C:CallRel) (Y:YieldRel) (ops:Array Oper) (T:Nat→Nat→Bool):List Nat→List (Nat × Act × Oper × Value)→Act→Heap→Act→Heap→Prop
  | [],_,a,h,a',h'=>a'=a∧h'=h
  | i :: rest,qs,a,h,a',h'=>∃ o,ops[i]?=some o ∧
      ((Region.wanted o (yielded ops a.tmps)=true∧∃ v h1,stepRel P C Y a.eval o h v h1 ∧
          (kindOf P o.op=3→∀ x ∈ qs,T i x.1=false→amOp P x.2.1.eval x.2.2.1 h1=some (x.2.2.2,h1)) ∧
          drun P C Y ops T rest (if kindOf P o.op=2 then (i,a,o,v) :: qs else qs) (a.put o.dst v) h1 a' h') ∨
       (Region.wanted o (yielded ops a.tmps)=false∧drun P C Y ops T rest qs (a.put o.dst undef) h a' h'))

section
variable {P : Program} {C : CallRel} {Y : YieldRel} {ops : Array Oper} {T : Nat → Nat → Bool}

def shiftF {α:Type} (x:α) (f:Nat→α):Nat→α
  | 0=>x
  | n + 1=>f n

theorem drun_trace:∀ (l:List Nat) (qs:List (Nat × Act × Oper × Value)) (a:Act) (h:Heap) (a':Act) (h':Heap),drun P C Y ops T l qs a h a' h' →
    ∃ (A:Nat→Act) (H:Nat→Heap) (V:Nat→Value),A 0=a∧H 0=h∧A l.length=a'∧H l.length=h'∧Trace P C Y ops l T A H V ∧
      ∀ x ∈ qs,∀ (r j:Nat) (oj:Oper),l[r]?=some j→ops[j]?=some oj→kindOf P oj.op=3→Region.wanted oj (yielded ops (A r).tmps)=true→T j x.1=false→amOp P x.2.1.eval x.2.2.1 (H (r + 1))=some (x.2.2.2,H (r + 1))
  | [],qs,a,h,a',h',hd=>by
    obtain ⟨rfl,rfl⟩:=hd
    exact ⟨fun _=>a',fun _=>h',fun _=>undef,rfl,rfl,rfl,rfl,⟨fun q i o hq=>by simp at hq,fun q r i j oi oj _ hq=>by simp at hq⟩,fun x _ r j oj hr=>by simp at hr⟩
  | i :: rest,qs,a,h,a',h',hd=>by
    obtain ⟨o,ho,hd⟩:=hd
    rcases hd with ⟨hw,v,h1,hs,hk,hd⟩ | ⟨hw,hd⟩
    · obtain ⟨A,H,V,e1,e2,e3,e4,tr,hq⟩:=drun_trace rest _ _ _ _ _ hd
      refine ⟨shiftF a A,shiftF h H,shiftF v V,rfl,rfl,e3,e4,⟨?_,?_⟩,?_⟩
      · intro q j oj hqj hj
        cases q with
        | zero =>
          simp only [List.getElem?_cons_zero,Option.some.injEq] at hqj
          subst hqj
          rw [ho] at hj; cases hj
          exact ⟨.inl ⟨hw,by show stepRel P C Y a.eval o h v (H 0); rw [e2]; exact hs⟩,e1⟩
        | succ q=>exact tr.step q j oj (by simpa using hqj) hj
      · intro q r j k oj ok hqr hqj hrk hj hk' kj kk wj wk ht
        cases r with
        | zero=>omega
        | succ r =>
          cases q with
          | zero =>
            simp only [List.getElem?_cons_zero,Option.some.injEq] at hqj
            subst hqj
            rw [ho] at hj; cases hj
            exact hq (i,a,o,v) (by rw [if_pos kj]; simp) r k ok (by simpa using hrk) hk' kk wk ht
          | succ q=>exact tr.keep q r j k oj ok (by omega) (by simpa using hqj) (by simpa using hrk) hj hk' kj kk wj wk ht
      · intro x hx r j oj hr hj kj wj ht
        cases r with
        | zero =>
          simp only [List.getElem?_cons_zero,Option.some.injEq] at hr
          subst hr
          rw [ho] at hj; cases hj
          show amOp P x.2.1.eval x.2.2.1 (H 0)=some (x.2.2.2,H 0)
          rw [e2]
          exact hk kj x hx ht
        | succ r=>exact hq x (by split <;> simp [hx]) r j oj (by simpa using hr) hj kj wj ht
    · obtain ⟨A,H,V,e1,e2,e3,e4,tr,hq⟩:=drun_trace rest _ _ _ _ _ hd
      refine ⟨shiftF a A,shiftF h H,shiftF undef V,rfl,rfl,e3,e4,⟨?_,?_⟩,?_⟩
      · intro q j oj hqj hj
        cases q with
        | zero =>
          simp only [List.getElem?_cons_zero,Option.some.injEq] at hqj
          subst hqj
          rw [ho] at hj; cases hj
          exact ⟨.inr ⟨hw,rfl,e2⟩,e1⟩
        | succ q=>exact tr.step q j oj (by simpa using hqj) hj
      · intro q r j k oj ok hqr hqj hrk hj hk' kj kk wj wk ht
        cases r with
        | zero=>omega
        | succ r =>
          cases q with
          | zero =>
            simp only [List.getElem?_cons_zero,Option.some.injEq] at hqj
            subst hqj
            rw [ho] at hj; cases hj
            have wj':Region.wanted o (yielded ops a.tmps)=true:=wj
            rw [hw] at wj'; cases wj'
          | succ q=>exact tr.keep q r j k oj ok (by omega) (by simpa using hqj) (by simpa using hrk) hj hk' kj kk wj wk ht
      · intro x hx r j oj hr hj kj wj ht
        cases r with
        | zero =>
          simp only [List.getElem?_cons_zero,Option.some.injEq] at hr
          subst hr
          rw [ho] at hj; cases hj
          have wj':Region.wanted o (yielded ops a.tmps)=true:=wj
          rw [hw] at wj'; cases wj'
        | succ r=>exact hq x hx r j oj (by simpa using hr) hj kj wj ht

theorem sound_draw {ord:List Nat} (hm:P.follows .mixedOrders=true) (st:Static P ops ord T) {id:Nat} {ro:Option Nat} {a a1:Act} {h h1:Heap} (hd:drun P (SoundCall P) (SoundYield P) ops T ord [] a h a1 h1) :
    SoundCode P ro (.region id ops true) a h .normal a1 h1:=by
  obtain ⟨A,H,V,e1,e2,e3,e4,tr,_⟩:=drun_trace _ _ _ _ _ _ hd
  refine sound_plain (fun _ e=>by cases e) fun R w a' ro' k ka kr Q hq n=>wpIn_region_any hm ?_
  obtain ⟨p,g1,g2,g3,g4⟩:=front_next P ops ord ord.length 0 (by omega)
  have hnl:∀ i,¬ Lst (Array.replicate ops.size false) i:=by
    intro i h
    unfold Lst at h
    simp only [Array.getD_eq_getD_getElem?,Array.getElem?_replicate] at h
    split at h <;> simp at h
  have ext:∀ q r,q≤r→r≤p→Ext (H q) (H r):=fun q r hqr hr=>by
    have:=tr.quiets st q (r - q) (by omega) fun q1 i1 o1 a1 a2=>g3 q1 i1 o1 (by omega) (by omega)
    rwa [show q + (r - q)=r by omega] at this
  have k':Rel P R (hget h) { w with drawn:=w.drawn + 1 }:=k.of_heap rfl
  have s0:Sim P R h w R h { w with drawn:=w.drawn + 1 }:=Sim.same k rfl rfl rfl rfl
  refine any_sound (R0:=R) (h0:=h) (w0:=w) st tr n ro' ?_ ops.size _ p R (A 0) a' _ (ActInv.start _ rfl) ⟨?_,?_,g4,?_,e2,?_⟩ (by rw [e1]; exact ka) (by rw [Array.toList_replicate,List.countP_replicate]; simp)
  · intro R1 w1 a1' s1 r1
    rw [e3] at r1; rw [e4] at s1
    exact hq R1 w1 a1' s1 r1
  · have:=ext 0 p (Nat.zero_le _) (Nat.le_refl _)
    rw [e2] at this
    exact s0.ext this
  · intro q i o hq hi hk
    refine ⟨fun hqp=>absurd hk (g3 q i o (Nat.zero_le _) hqp hq hi),fun _=>hnl i⟩
  · intro q r hqr hr
    exact (ext q r hqr hr).size
  · intro q i o hq hi hk hw hqp _
    have hs:=(ext 0 q (Nat.zero_le _) (by omega)).size
    rw [e2] at hs
    refine ⟨?_,?_,?_⟩
    · cases hm:R.map (H q).size with
      | none=>rfl
      | some g=>have:=(k.lt hm).1; omega
    · cases hm:R.dead (H q).size with
      | false=>rfl
      | true=>have:=k.dead_lt hm; omega
    · rcases (tr.step q i o hq hi).1 with ⟨_,hst⟩ | ⟨hw',_⟩
      · obtain ⟨ob,e,_⟩:=alloc_val hk (step_amOp (by omega) hst)
        refine ⟨ob,e,ext (q + 1) p (by omega) (Nat.le_refl _) _ _ ?_⟩
        rw [e]; simp
      · rw [hw] at hw'; cases hw'

/-! ### the check of the text -/

/-- Who must come ahead of each: a set of numbers as a number's bits. -/
def ancRow (M:List Nat) (es:List Edge):Nat:=es.foldl (fun r e=>if Region.binds .any e then r ||| 2 ^ e.on ||| M.getD e.on 0 else r) 0
def ancTab (l:List Oper):List Nat:=l.foldl (fun M o=>M++[ancRow M o.after.toList]) []
def tabT (M:List Nat) (i k:Nat):Bool:=(M.getD i 0).testBit k
def needRow (es:List Edge):Nat:=es.foldl (fun r e=>if Region.binds .any e then r ||| 2 ^ e.on else r) 0

/-- The quiet ones as early as can be, the loud ones in their order. -/
def pick (needs:List (Nat × Bool)) (done:Nat):Option Nat :=
  let rdy:=needs.zipIdx.filter fun x=>!done.testBit x.2 && (x.1.1 &&& done == x.1.1)
  match rdy.find? fun x=>!x.1.2 with
  | some x=>some x.2
  | none=>(rdy.head?).map (·.2)
def quietFrom (needs:List (Nat × Bool)):Nat→Nat→List Nat
  | 0,_=>[]
  | n + 1,done=>match pick needs done with
    | some i=>i :: quietFrom needs n (done ||| 2 ^ i)
    | none=>[]
def quietOrd (P:Program) (l:List Oper):List Nat:=quietFrom (l.map fun o=>(needRow o.after.toList,kindOf P o.op == 3)) l.length 0

def posOf (ord:List Nat) (n:Nat):List Nat:=(List.range n).map fun i=>ord.idxOf i

def staticOk (P:Program) (l:List Oper) (ord:List Nat) (M pos:List Nat):Bool :=
  let n:=l.length
  ord.zipIdx.all (fun x=>decide (x.1 < n) && pos[x.1]? == some x.2) &&
  (List.range n).all (fun i=>(pos[i]?).bind (ord[·]?) == some i) &&
  l.zipIdx.all (fun x=>x.1.after.toList.all fun e=>!Region.binds .any e || (decide (e.on < n) && decide (pos.getD e.on 0 < pos.getD x.2 0))) &&
  l.zipIdx.all (fun x=>M.getD x.2 0 == ancRow M x.1.after.toList) &&
  l.zipIdx.all (fun x=>match x.1.dst with
    | none=>true
    | some t=>l.zipIdx.all fun y=>(x.2 == y.2) || (y.1.dst != some t && (!(y.1.looksAt l.toArray).contains t || tabT M x.2 y.2 || tabT M y.2 x.2))) &&
  l.zipIdx.all (fun x=>kindOf P x.1.op != 3 || l.zipIdx.all fun y=>kindOf P y.1.op == 0 || decide (pos.getD y.2 0≤pos.getD x.2 0) || tabT M y.2 x.2)

theorem ancRow_spec (M:List Nat) (k:Nat):∀ (es:List Edge) (r:Nat),(es.foldl (fun r e=>if Region.binds .any e then r ||| 2 ^ e.on ||| M.getD e.on 0 else r) r).testBit k=true→r.testBit k=true ∨ ∃ e ∈ es,Region.binds .any e=true∧(k=e.on ∨ (M.getD e.on 0).testBit k=true)
  | [],r,h=>.inl h
  | e :: es,r,h=>by
    simp only [List.foldl_cons] at h
    rcases ancRow_spec M k es _ h with h1 | ⟨e',he',h2⟩
    · split at h1
      · rename_i hb
        rw [Nat.testBit_or,Nat.testBit_or,Bool.or_eq_true,Bool.or_eq_true,Nat.testBit_two_pow] at h1
        rcases h1 with (h1 | h1) | h1
        · exact .inl h1
        · exact .inr ⟨e,by simp,hb,.inl (of_decide_eq_true h1).symm⟩
        · exact .inr ⟨e,by simp,hb,.inr h1⟩
      · exact .inl h1
    · exact .inr ⟨e',by simp [he'],h2⟩

theorem static_of {ord M pos:List Nat} (h:staticOk P ops.toList ord M pos=true):Static P ops ord (tabT M):=by
  simp only [staticOk,Bool.and_eq_true] at h
  obtain ⟨⟨⟨⟨⟨h1,h2⟩,h3⟩,h4⟩,h5⟩,h6⟩:=h
  have zi:∀ {α:Type} {l:List α} {x:α} {i:Nat},l[i]?=some x→(x,i) ∈ l.zipIdx:=by
    intro α l x i hx
    rw [List.mem_zipIdx_iff_getElem?]; exact hx
  have toL:∀ {i:Nat} {o:Oper},ops[i]?=some o→ops.toList[i]?=some o:=by
    intro i o hi
    simpa using hi
  have o1:∀ (q i:Nat),ord[q]?=some i→i < ops.size∧pos[i]?=some q:=by
    intro q i hq
    have:=List.all_eq_true.1 h1 (i,q) (zi hq)
    simp only [Bool.and_eq_true,decide_eq_true_eq,beq_iff_eq] at this
    exact ⟨by simpa using this.1,this.2⟩
  have lo:∀ {i:Nat} {o:Oper},ops[i]?=some o→(o,i) ∈ ops.toList.zipIdx:=fun hi=>zi (toL hi)
  have o2:∀ i:Nat,i < ops.size→∃ q:Nat,pos[i]?=some q∧ord[q]?=some i:=by
    intro i hi
    have:=List.all_eq_true.1 h2 i (by simpa using hi)
    simp only [beq_iff_eq,Option.bind_eq_some_iff] at this
    exact this
  have pd:∀ {i q:Nat},pos[i]?=some q→pos.getD i 0=q:=fun h=>by simp [List.getD_eq_getElem?_getD,h]
  refine ⟨?_,?_,?_,?_,?_,?_,?_,?_⟩
  · intro q r i hq hr
    have a:=(o1 q i hq).2
    have b:=(o1 r i hr).2
    rw [a] at b; cases b; rfl
  · intro i hi
    obtain ⟨q,_,h⟩:=o2 i hi
    exact ⟨q,h⟩
  · intro q i hq; exact (o1 q i hq).1
  · intro q i o e hq hi he hb
    have:=List.all_eq_true.1 h3 (o,i) (lo hi)
    have:=List.all_eq_true.1 this e (by simpa using he)
    simp only [hb,Bool.not_true,Bool.false_or,Bool.and_eq_true,decide_eq_true_eq] at this
    obtain ⟨g1,g2⟩:=this
    obtain ⟨r,r1,r2⟩:=o2 e.on (by simpa using g1)
    rw [pd r1,pd (o1 q i hq).2] at g2
    exact ⟨r,g2,r2⟩
  · intro i o k hi hT
    have:=List.all_eq_true.1 h4 (o,i) (lo hi)
    simp only [beq_iff_eq] at this
    unfold tabT at hT
    rw [this] at hT
    rcases ancRow_spec M k o.after.toList 0 hT with g | ⟨e,he,g⟩
    · simp at g
    · exact ⟨e,by simpa using he,g⟩
  · intro i j oi oj t hi hj di dj
    have:=List.all_eq_true.1 h5 (oi,i) (lo hi)
    simp only [di] at this
    have:=List.all_eq_true.1 this (oj,j) (lo hj)
    simp only [Bool.or_eq_true,beq_iff_eq,Bool.and_eq_true,bne_iff_ne,ne_eq] at this
    rcases this with g | g
    · exact g
    · exact absurd dj g.1
  · intro i j oi oj t hi hj hij dj ht
    have:=List.all_eq_true.1 h5 (oj,j) (lo hj)
    simp only [dj] at this
    have:=List.all_eq_true.1 this (oi,i) (lo hi)
    simp only [Bool.or_eq_true,beq_iff_eq,Bool.and_eq_true,bne_iff_ne,ne_eq] at this
    rcases this with g | ⟨_,g⟩
    · exact absurd g.symm hij
    · rcases g with (g | g) | g
      · simp [ht] at g
      · exact .inr g
      · exact .inl g
  · intro q r i j oi oj hqr hq hr hi hj ki kj
    have:=List.all_eq_true.1 h6 (oi,i) (lo hi)
    simp only [ki,bne_self_eq_false,Bool.false_or] at this
    have:=List.all_eq_true.1 this (oj,j) (lo hj)
    simp only [Bool.or_eq_true,beq_iff_eq,decide_eq_true_eq] at this
    rw [pd (o1 q i hq).2,pd (o1 r j hr).2] at this
    rcases this with (g | g) | g
    · exact absurd g kj
    · omega
    · exact g
end
end Go.AM
