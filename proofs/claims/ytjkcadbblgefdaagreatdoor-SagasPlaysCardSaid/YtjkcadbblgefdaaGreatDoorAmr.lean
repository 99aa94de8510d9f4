/- An abstract machine for Go, part 18: a region that draws the order of its operations. -/
import Derived.Test.YtjkcadbblgefdaaGreatDoorAmq
import Derived.OrdersIn
namespace Go.AM

/-- What is seen from the text of a region: an order in which it can run, who must come ahead of whom. -/
structure Static (P:Program) (ops:Array Oper) (ord:List Nat) (T:Nat→Nat→Bool):Prop where
  inj:∀ (q r i:Nat),ord[q]?=some i→ord[r]?=some i→q=r
  cov:∀ i:Nat,i < ops.size→∃ q:Nat,ord[q]?=some i
  rng:∀ (q i:Nat),ord[q]?=some i→i < ops.size
  edges:∀ (q i:Nat) (o:Oper) (e:Edge),ord[q]?=some i→ops[i]?=some o→e ∈ o.after→Region.binds .any e=true→∃ r:Nat,r < q∧ord[r]?=some e.on
  anc:∀ (i:Nat) (o:Oper) (k:Nat),ops[i]?=some o→T i k=true→∃ e ∈ o.after,Region.binds .any e=true∧(k=e.on ∨ T e.on k=true)
  dst:∀ (i j:Nat) (oi oj:Oper) (t:Tmp),ops[i]?=some oi→ops[j]?=some oj→oi.dst=some t→oj.dst=some t→i=j
  looks:∀ (i j:Nat) (oi oj:Oper) (t:Tmp),ops[i]?=some oi→ops[j]?=some oj→i ≠ j→oj.dst=some t→t ∈ oi.looksAt ops→T i j=true ∨ T j i=true
  loud:∀ (q r i j:Nat) (oi oj:Oper),q < r→ord[q]?=some i→ord[r]?=some j→ops[i]?=some oi→ops[j]?=some oj→kindOf P oi.op=3→kindOf P oj.op ≠ 0→T j i=true

/-- What a run in that order has held, place by place. -/
structure Trace (P:Program) (C:CallRel) (Y:YieldRel) (ops:Array Oper) (ord:List Nat) (T:Nat→Nat→Bool) (A:Nat→Act) (H:Nat→Heap) (V:Nat→Value):Prop where
  step:∀ (q i:Nat) (o:Oper),ord[q]?=some i→ops[i]?=some o →
    ((Region.wanted o (yielded ops (A q).tmps)=true∧stepRel P C Y (A q).eval o (H q) (V q) (H (q + 1))) ∨
     (Region.wanted o (yielded ops (A q).tmps)=false∧V q=undef∧H (q + 1)=H q))∧A (q + 1)=(A q).put o.dst (V q)
  keep:∀ (q r i j:Nat) (oi oj:Oper),q < r→ord[q]?=some i→ord[r]?=some j→ops[i]?=some oi→ops[j]?=some oj→kindOf P oi.op=2→kindOf P oj.op=3 →
    Region.wanted oi (yielded ops (A q).tmps)=true→Region.wanted oj (yielded ops (A r).tmps)=true→T j i=false→amOp P (A q).eval oi (H (r + 1))=some (V q,H (r + 1))

def Lst (listed:Array Bool) (i:Nat):Prop:=listed.getD i false=true

section
variable {P : Program} {C : CallRel} {Y : YieldRel} {ops : Array Oper} {ord : List Nat} {T : Nat → Nat → Bool} {A : Nat → Act} {H : Nat → Heap} {V : Nat → Value}

theorem Static.back (st:Static P ops ord T):∀ (q i k:Nat),ord[q]?=some i→T i k=true→∃ r:Nat,r < q∧ord[r]?=some k:=by
  intro q
  induction q using Nat.strongRecOn with
  | _ q ih =>
    intro i k hq ht
    have hlt:=st.rng q i hq
    obtain ⟨e,he,hb,hk⟩:=st.anc i _ k (Array.getElem?_eq_getElem hlt) ht
    obtain ⟨r,hr,hor⟩:=st.edges q i _ e hq (Array.getElem?_eq_getElem hlt) he hb
    rcases hk with rfl | hk
    · exact ⟨r,hr,hor⟩
    · obtain ⟨r',hr',hor'⟩:=ih r hr _ _ hor hk
      exact ⟨r',by omega,hor'⟩

theorem lst_set {listed:Array Bool} {i j:Nat} (hi:i < listed.size):Lst (listed.setIfInBounds i true) j ↔ j=i ∨ Lst listed j:=by
  unfold Lst
  simp only [Array.getD_eq_getD_getElem?,Array.getElem?_setIfInBounds]
  split
  · rename_i e; subst e; simp [hi]
  · rename_i e
    constructor
    · intro h; exact .inr h
    · rintro (h | h)
      · exact absurd h.symm e
      · exact h

/-- Who is ready has all behind him that must be. -/
theorem ready_anc (st:Static P ops ord T) {listed:Array Bool} (hc:∀ i k,Lst listed i→T i k=true→Lst listed k) {i:Nat} (hr:i ∈ Region.ready .any ops listed) {k:Nat} (ht:T i k=true):Lst listed k:=by
  rw [mem_ready] at hr
  obtain ⟨_,o,ho,hall⟩:=hr
  obtain ⟨e,he,hb,hk⟩:=st.anc i o k ho ht
  have:=hall e he hb
  rcases hk with rfl | hk
  · exact this
  · exact hc _ _ this hk

theorem put_get (a:Act) (d:Option Tmp) (v:Value) (t:Tmp):(a.put d v).tmps[t]?=if d=some t then (if t < a.tmps.size then some v else none) else a.tmps[t]?:=by
  cases d with
  | none=>simp [Act.put]
  | some d =>
    simp only [Act.put,Array.getElem?_setIfInBounds]
    by_cases e:d=t
    · subst e; simp
    · simp [e]

theorem put_size (a:Act) (d:Option Tmp) (v:Value):(a.put d v).tmps.size=a.tmps.size:=by cases d <;> simp [Act.put]
theorem put_defers (a:Act) (d:Option Tmp) (v:Value):(a.put d v).defers=a.defers:=by cases d <;> rfl

theorem Trace.size (st:Static P ops ord T) (tr:Trace P C Y ops ord T A H V):∀ q,q≤ord.length→(A q).tmps.size=(A 0).tmps.size∧(A q).defers=(A 0).defers
  | 0,_=>⟨rfl,rfl⟩
  | q + 1,hq=>by
    have ho:=List.getElem?_eq_getElem (l:=ord) (i:=q) (by omega)
    have hlt:=st.rng q _ ho
    rw [(tr.step q _ _ ho (Array.getElem?_eq_getElem hlt)).2,put_size,put_defers]
    exact Trace.size st tr q (by omega)

theorem Trace.same (st:Static P ops ord T) (tr:Trace P C Y ops ord T A H V) (t:Tmp):∀ q,q≤ord.length →
    (∀ (r j:Nat) (o:Oper),r < q→ord[r]?=some j→ops[j]?=some o→o.dst ≠ some t)→(A q).tmps[t]?=(A 0).tmps[t]?
  | 0,_,_=>rfl
  | q + 1,hq,h=>by
    have ho:=List.getElem?_eq_getElem (l:=ord) (i:=q) (by omega)
    have hlt:=st.rng q _ ho
    have hop:=Array.getElem?_eq_getElem hlt
    rw [(tr.step q _ _ ho hop).2,put_get,if_neg (h q _ _ (by omega) ho hop)]
    exact Trace.same st tr t q (by omega) fun r j o hr=>h r j o (by omega)

theorem Trace.put (st:Static P ops ord T) (tr:Trace P C Y ops ord T A H V) {t:Tmp} (ht:t < (A 0).tmps.size) {r j:Nat} {o:Oper} (hr:ord[r]?=some j) (hj:ops[j]?=some o) (hd:o.dst=some t):∀ q,q≤ord.length→r < q →
    (A q).tmps[t]?=some (V r)
  | 0,_,h=>absurd h (Nat.not_lt_zero _)
  | q + 1,hq,h=>by
    have ho:=List.getElem?_eq_getElem (l:=ord) (i:=q) (by omega)
    have hlt:=st.rng q _ ho
    have hop:=Array.getElem?_eq_getElem hlt
    rw [(tr.step q _ _ ho hop).2,put_get]
    by_cases e:ops[ord[q]].dst=some t
    · rw [if_pos e,if_pos (by rw [(Trace.size st tr q (by omega)).1]; exact ht)]
      have h1:=st.dst _ _ _ _ t hop hj e hd
      rw [h1] at ho
      rw [st.inj q r j ho hr]
    · rw [if_neg e]
      have:r ≠ q:=by
        rintro rfl
        rw [hr] at ho; cases ho
        rw [hop] at hj; cases hj
        exact e hd
      exact Trace.put st tr ht hr hj hd q (by omega) (by omega)

/-- What the slots hold where a part has run. -/
structure ActInv (ops:Array Oper) (ord:List Nat) (T:Nat→Nat→Bool) (A:Nat→Act) (V:Nat→Value) (listed:Array Bool) (b:Act):Prop where
  size:b.tmps.size=(A 0).tmps.size
  defers:b.defers=(A 0).defers
  put:∀ (q i:Nat) (o:Oper) (t:Tmp),ord[q]?=some i→ops[i]?=some o→Lst listed i→o.dst=some t→t < (A 0).tmps.size→b.tmps[t]?=some (V q)
  same:∀ t:Tmp,(∀ (q i:Nat) (o:Oper),ord[q]?=some i→ops[i]?=some o→Lst listed i→o.dst ≠ some t)→b.tmps[t]?=(A 0).tmps[t]?
  closed:∀ i k,Lst listed i→T i k=true→Lst listed k
  lsize:listed.size=ops.size

theorem ActInv.start (listed:Array Bool) (hl:listed=Array.replicate ops.size false):ActInv ops ord T A V listed (A 0):=by
  have hn:∀ i,¬ Lst listed i:=by
    intro i h
    subst hl
    unfold Lst at h
    simp only [Array.getD_eq_getD_getElem?,Array.getElem?_replicate] at h
    split at h <;> simp at h
  exact ⟨rfl,rfl,fun _ i _ _ _ _ h=>absurd h (hn i),fun _ _=>rfl,fun i _ h=>absurd h (hn i),by simp [hl]⟩

theorem ActInv.next (st:Static P ops ord T) {listed:Array Bool} {b:Act} (k:ActInv ops ord T A V listed b) {q i:Nat} {o:Oper} (hq:ord[q]?=some i) (hi:ops[i]?=some o) (hr:i ∈ Region.ready .any ops listed) :
    ActInv ops ord T A V (listed.setIfInBounds i true) (b.put o.dst (V q)):=by
  have hlt:i < listed.size:=by rw [k.lsize]; exact st.rng q i hq
  have hls:=fun j=>lst_set (listed:=listed) (i:=i) (j:=j) hlt
  refine ⟨by rw [put_size]; exact k.size,by rw [put_defers]; exact k.defers,?_,?_,?_,by simp [k.lsize]⟩
  · intro r j oj t hrj hj hL hd ht
    rw [put_get]
    rcases (hls j).1 hL with rfl | hL
    · have e:=st.inj r q _ hrj hq
      rw [hi] at hj; cases hj
      rw [if_pos hd,if_pos (by rw [k.size]; exact ht),e]
    · rw [if_neg]
      · exact k.put r j oj t hrj hj hL hd ht
      · intro e
        have:=st.dst i j o oj t hi hj e hd
        subst this
        rw [mem_ready] at hr
        have:=hr.1
        unfold Lst at hL
        simp only [Array.getD_eq_getD_getElem?] at this hL
        cases hx:listed[i]? with
        | none=>rw [hx] at hL; simp at hL
        | some x=>rw [hx] at hL this; simp at hL this; rw [hL] at this; cases this
  · intro t h
    rw [put_get,if_neg (h q i o hq hi ((hls i).2 (.inl rfl)))]
    exact k.same t fun r j oj hrj hj hL=>h r j oj hrj hj ((hls j).2 (.inr hL))
  · intro j m hL ht
    rcases (hls j).1 hL with rfl | hL
    · exact (hls m).2 (.inr (ready_anc st k.closed hr ht))
    · exact (hls m).2 (.inr (k.closed j m hL ht))

theorem not_lst {listed:Array Bool} {i:Nat} (hr:i ∈ Region.ready .any ops listed):¬ Lst listed i:=by
  intro hL
  rw [mem_ready] at hr
  have:=hr.1
  unfold Lst at hL
  simp only [Array.getD_eq_getD_getElem?] at this hL
  cases hx:listed[i]? with
  | none=>rw [hx] at hL; simp at hL
  | some x=>rw [hx] at hL this; simp at hL this; rw [hL] at this; cases this

/-- Who is ready sees what he saw in the text's order. -/
theorem ActInv.sees (st:Static P ops ord T) (tr:Trace P C Y ops ord T A H V) {listed:Array Bool} {b:Act} (k:ActInv ops ord T A V listed b) {q i:Nat} {o:Oper} (hq:ord[q]?=some i) (hi:ops[i]?=some o) (hr:i ∈ Region.ready .any ops listed)
    {t:Tmp} (ht:t ∈ o.looksAt ops):b.tmps[t]?=(A q).tmps[t]?:=by
  have hql:q < ord.length:=(List.getElem?_eq_some_iff.1 hq).1
  have hnl:=not_lst hr
  have notBoth:∀ {r j:Nat} {oj:Oper},ord[r]?=some j→ops[j]?=some oj→oj.dst=some t→∀ {r' j':Nat} {o':Oper},ord[r']?=some j'→ops[j']?=some o'→o'.dst=some t→r'=r∧j'=j:=by
    intro r j oj h1 h2 h3 r' j' o' h4 h5 h6
    have e:=st.dst j' j o' oj t h5 h2 h6 h3
    subst e
    exact ⟨st.inj _ _ _ h4 h1,rfl⟩
  by_cases hw:∃ (r j:Nat) (oj:Oper),ord[r]?=some j∧ops[j]?=some oj∧oj.dst=some t
  · obtain ⟨r,j,oj,h1,h2,h3⟩:=hw
    have later:q≤r→¬ Lst listed j→b.tmps[t]?=(A q).tmps[t]?:=by
      intro hle hnj
      rw [k.same t fun r' j' o' g1 g2 g3 g4=>by
        have:=notBoth h1 h2 h3 g1 g2 g4
        rw [this.2] at g3; exact hnj g3]
      rw [tr.same st t q (by omega) fun r' j' o' hlt g1 g2 g4=>by
        have:=notBoth h1 h2 h3 g1 g2 g4
        omega]
    by_cases hij:i=j
    · subst hij
      have:=st.inj r q i h1 hq
      exact later (by omega) hnl
    · rcases st.looks i j o oj t hi h2 hij h3 ht with h | h
      · have hL:=ready_anc st k.closed hr h
        obtain ⟨r',hr',g⟩:=st.back q i j hq h
        have e:=st.inj r r' j h1 g
        by_cases hts:t < (A 0).tmps.size
        · rw [k.put r j oj t h1 h2 hL h3 hts,tr.put st hts h1 h2 h3 q (by omega) (by omega)]
        · rw [Array.getElem?_eq_none (by rw [k.size]; exact Nat.le_of_not_lt hts),Array.getElem?_eq_none (by rw [(tr.size st q (by omega)).1]; exact Nat.le_of_not_lt hts)]
      · obtain ⟨r',hr',g⟩:=st.back r j i h1 h
        have e:=st.inj q r' i hq g
        exact later (by omega) fun hL=>hnl (k.closed j i hL h)
  · have hno:∀ (r j:Nat) (oj:Oper),ord[r]?=some j→ops[j]?=some oj→oj.dst ≠ some t:=fun r j oj h1 h2 h3=>hw ⟨r,j,oj,h1,h2,h3⟩
    rw [k.same t fun r j oj h1 h2 _=>hno r j oj h1 h2,tr.same st t q (by omega) fun r j oj _ h1 h2=>hno r j oj h1 h2]

theorem eval_same {a b:Act} {o:Oper} (h:∀ t ∈ o.looksAt ops,b.tmps[t]?=a.tmps[t]?) {x:Operand} (hx:x ∈ o.op.operands):b.eval x=a.eval x:=by
  cases x with
  | tmp t =>
    have:=h t (List.mem_append_left _ (List.mem_filterMap.2 ⟨.tmp t,by simpa using hx,rfl⟩))
    simp [Act.eval,this]
  | _=>rfl

theorem wanted_same {a b:Act} {o:Oper} (h:∀ t ∈ o.looksAt ops,b.tmps[t]?=a.tmps[t]?):Region.wanted o (yielded ops b.tmps)=Region.wanted o (yielded ops a.tmps):=by
  unfold Region.wanted
  cases hg:o.guard with
  | none=>rfl
  | some gw =>
    obtain ⟨g,want⟩:=gw
    have:yielded ops b.tmps g=yielded ops a.tmps g:=by
      unfold yielded
      cases hd:(ops[g]?).bind (·.dst) with
      | none=>rfl
      | some t =>
        simp only [Option.bind_some]
        rw [h t (List.mem_append_right _ (by simp [hg,hd]))]
    simp only [this]

theorem kind_call {ev:Operand→Value} {o:Oper} {r:Fn × Array Value} (h:calleeOf ev o=some r):kindOf P o.op=3:=by
  unfold calleeOf at h
  split at h
  · rename_i hop; rw [hop]; rfl
  · cases h

theorem step_amOp {ev:Operand→Value} {o:Oper} {h h':Heap} {v:Value} (hk:kindOf P o.op ≠ 3) (hs:stepRel P C Y ev o h v h'):amOp P ev o h=some (v,h'):=by
  rcases hs.2 with h1 | ⟨_,_,_,h1,_⟩ | ⟨_,_,h1,_⟩
  · exact h1
  · exact absurd (kind_call h1) hk
  · exact absurd (kind_call h1) hk

theorem kind_le (o:Op):kindOf P o=0 ∨ kindOf P o=1 ∨ kindOf P o=2 ∨ kindOf P o=3:=by
  unfold kindOf
  split <;> (try split) <;> (try split) <;> simp

/-- What is no loud operation keeps the blocks that there are. -/
theorem Trace.quiet (tr:Trace P C Y ops ord T A H V) {q i:Nat} {o:Oper} (hq:ord[q]?=some i) (hi:ops[i]?=some o) (hk:kindOf P o.op ≠ 3):Ext (H q) (H (q + 1)):=by
  rcases (tr.step q i o hq hi).1 with ⟨_,hs⟩ | ⟨_,_,e⟩
  · have hs:=step_amOp hk hs
    rcases kind_le (P:=P) o.op with k0 | k1 | k2 | k3
    · rw [(pure_val k0 hs).1]; exact Ext.refl _
    · obtain ⟨ob,e,_⟩:=alloc_val k1 hs
      rw [e]; exact Ext.push _ _
    · rw [(read_mono k2 (Ext.refl _) hs).1]; exact Ext.refl _
    · exact absurd k3 hk
  · rw [e]; exact Ext.refl _

theorem Trace.quiets (st:Static P ops ord T) (tr:Trace P C Y ops ord T A H V) (p:Nat):∀ n,p + n≤ord.length →
    (∀ (q i:Nat) (o:Oper),p≤q→q < p + n→ord[q]?=some i→ops[i]?=some o→kindOf P o.op ≠ 3)→Ext (H p) (H (p + n))
  | 0,_,_=>Ext.refl _
  | n + 1,hn,h=>by
    have ho:=List.getElem?_eq_getElem (l:=ord) (i:=p + n) (by omega)
    have hlt:=st.rng _ _ ho
    have hop:=Array.getElem?_eq_getElem hlt
    exact (Trace.quiets st tr p n (by omega) fun q i o h1 h2=>h q i o h1 (by omega)).trans (tr.quiet ho hop (h (p + n) _ _ (by omega) (by omega) ho hop))
end
end Go.AM
