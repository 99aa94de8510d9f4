/- An abstract machine for Go, part 19: whatever order a region draws, it comes to what the text's order comes to. -/
import Derived.Test.YtjkcadbblgefdaaGreatDoorAmr
namespace Go.AM

section
variable {P : Program} {ops : Array Oper} {ord : List Nat} {T : Nat → Nat → Bool} {A : Nat → Act} {H : Nat → Heap} {V : Nat → Value} {R0 : Ren} {h0 : Heap} {w0 : World}

/-- What the memory holds where a part has run. -/
structure HeapInv (P:Program) (ops:Array Oper) (ord:List Nat) (A:Nat→Act) (H:Nat→Heap) (R0:Ren) (h0:Heap) (w0:World) (listed:Array Bool) (p:Nat) (R:Ren) (w:World):Prop where
 sim:Sim P R0 h0 w0 R (H p) w
 front:∀ (q i:Nat) (o:Oper),ord[q]?=some i→ops[i]?=some o→kindOf P o.op=3→(q < p→Lst listed i)∧(p≤q→¬ Lst listed i)
 fp:p=ord.length ∨ (p < ord.length∧∃ (i:Nat) (o:Oper),ord[p]?=some i∧ops[i]?=some o∧kindOf P o.op=3)
 mono:∀ q r,q≤r→r≤p→(H q).size≤(H r).size
 base:H 0=h0
 late:∀ (q i:Nat) (o:Oper),ord[q]?=some i→ops[i]?=some o→kindOf P o.op=1→Region.wanted o (yielded ops (A q).tmps)=true→q < p→¬ Lst listed i →
  R.map (H q).size=none∧R.dead (H q).size=false∧∃ ob,H (q + 1)=(H q).push ob∧(H p)[(H q).size]?=some ob

theorem front_next (P:Program) (ops:Array Oper) (ord:List Nat):∀ n p,p + n=ord.length→∃ p',p≤p'∧p'≤ord.length∧(∀ (q i:Nat) (o:Oper),p≤q→q < p'→ord[q]?=some i→ops[i]?=some o→kindOf P o.op ≠ 3) ∧
  (p'=ord.length ∨ (p' < ord.length∧∃ (i:Nat) (o:Oper),ord[p']?=some i∧ops[i]?=some o∧kindOf P o.op=3))
 | 0,p,h=>⟨p,Nat.le_refl _,by omega,fun q i o h1 h2=>by omega,.inl (by omega)⟩
 | n + 1,p,h=>by
  by_cases hl:∃ (i:Nat) (o:Oper),ord[p]?=some i∧ops[i]?=some o∧kindOf P o.op=3
  ·exact ⟨p,Nat.le_refl _,by omega,fun q i o h1 h2=>by omega,.inr ⟨by omega,hl⟩⟩
  ·obtain ⟨p',h1,h2,h3,h4⟩:=front_next P ops ord n (p + 1) (by omega)
   refine ⟨p',by omega,h2,fun q i o g1 g2 g3 g4 hk=>?_,h4⟩
   by_cases e:q=p
   ·subst e; exact hl ⟨i,o,g3,g4,hk⟩
   ·exact h3 q i o (by omega) g2 g3 g4 hk

theorem Sim.ext {R:Ren} {h g:Heap} {w:World} (s:Sim P R0 h0 w0 R h w) (he:Ext h g):Sim P R0 h0 w0 R g w:=by
 have hs:=he.size
 have hg:∀ b,b < h.size→g[b]?=h[b]?:=fun b hb=>by
  rw [he b _ (Array.getElem?_eq_getElem hb),Array.getElem?_eq_getElem hb]
 refine ⟨⟨s.rel.inj,fun b x hb=>?_,fun b hb=>?_,s.rel.glob⟩,s.le,Nat.le_trans s.hsz hs,fun b hb e=>?_,s.old,s.os,s.tape,s.output,s.wsz,s.conc,s.newc,s.shape⟩
 ·obtain ⟨o,o',h1,h2⟩:=s.rel.obj b x hb
  exact ⟨o,o',he b o h1,h2⟩
 ·obtain ⟨h1,h2⟩:=s.rel.dead b hb
  exact ⟨h1,he b _ h2⟩
 ·rw [hg b (Nat.lt_of_lt_of_le hb s.hsz)]; exact s.canon b hb e

/-- Behind a loud operation the front goes on to the next. -/
theorem HeapInv.advance (st:Static P ops ord T) (tr:Trace P (SoundCall P) (SoundYield P) ops ord T A H V) {listed:Array Bool} {p:Nat} {R R1:Ren} {w w1:World} (k:HeapInv P ops ord A H R0 h0 w0 listed p R w) (hls:listed.size=ops.size)
  {i:Nat} {o:Oper} (hp:ord[p]?=some i) (hi:ops[i]?=some o) (hk:kindOf P o.op=3) (s:Sim P R (H p) w R1 (H (p + 1)) w1) :
  ∃ p',HeapInv P ops ord A H R0 h0 w0 (listed.setIfInBounds i true) p' R1 w1:=by
 have hpl:p < ord.length:=(List.getElem?_eq_some_iff.1 hp).1
 have hlt:i < listed.size:=by rw [hls]; exact st.rng p i hp
 have hL:=fun j=>lst_set (listed:=listed) (i:=i) (j:=j) hlt
 obtain ⟨p',g1,g2,g3,g4⟩:=front_next P ops ord (ord.length - (p + 1)) (p + 1) (by omega)
 have ext:∀ q,p + 1≤q→q≤p'→Ext (H (p + 1)) (H q):=fun q hq hq'=>by
  have:=tr.quiets st (p + 1) (q - (p + 1)) (by omega) fun q1 i1 o1 a1 a2=>g3 q1 i1 o1 a1 (by omega)
  rwa [show p + 1 + (q - (p + 1))=q by omega] at this
 have ext2:∀ q,p + 1≤q→q≤p'→Ext (H q) (H p'):=fun q hq hq'=>by
  have:=tr.quiets st q (p' - q) (by omega) fun q1 i1 o1 a1 a2=>g3 q1 i1 o1 (by omega) (by omega)
  rwa [show q + (p' - q)=p' by omega] at this
 have sim1:=k.sim.trans s
 refine ⟨p',sim1.ext (ext p' g1 (Nat.le_refl _)),?_,g4,?_,k.base,?_⟩
 ·intro q j oj hq hj hkj
  refine ⟨fun hqp=>(hL j).2 ?_,fun hqp hl=>?_⟩
  ·by_cases h1:q < p
   ·exact .inr ((k.front q j oj hq hj hkj).1 h1)
   ·by_cases h2:q=p
    ·subst h2; rw [hp] at hq; cases hq; exact .inl rfl
    ·exact absurd hkj (g3 q j oj (by omega) hqp hq hj)
  ·rcases (hL j).1 hl with e | hl
   ·subst e
    have:=st.inj q p _ hq hp
    omega
   ·exact (k.front q j oj hq hj hkj).2 (by omega) hl
 ·intro q r hqr hrp
  by_cases h1:r≤p
  ·exact k.mono q r hqr h1
  ·have e1:=(ext r (by omega) hrp).size
   by_cases h2:q≤p
   ·have:=k.mono q p h2 (Nat.le_refl _)
    have:=s.hsz
    omega
   ·have:=tr.quiets st q (r - q) (by omega) fun q1 i1 o1 a1 a2=>g3 q1 i1 o1 (by omega) (by omega)
    rw [show q + (r - q)=r by omega] at this
    exact this.size
 ·intro q j oj hq hj hkj hw hqp hnl
  by_cases h1:q < p
  ·obtain ⟨a1,a2,ob,a3,a4⟩:=k.late q j oj hq hj hkj hw h1 (fun hl=>hnl ((hL j).2 (.inr hl)))
   have hb:(H q).size < (H p).size:=(Array.getElem?_eq_some_iff.1 a4).1
   obtain ⟨b1,b2⟩:=s.old _ hb a1
   refine ⟨b1,b2.trans a2,ob,a3,?_⟩
   exact ext p' g1 (Nat.le_refl _) _ _ ((s.canon _ hb a1).trans a4)
  ·have h2:q ≠ p:=by
    rintro rfl
    rw [hp] at hq; cases hq; rw [hi] at hj; cases hj; omega
   have hs:=(ext q (by omega) (by omega)).size
   refine ⟨?_,?_,?_⟩
   ·cases hm:R1.map (H q).size with
    | none=>rfl
    | some g=>have:=(s.rel.lt hm).1; omega
   ·cases hm:R1.dead (H q).size with
    | false=>rfl
    | true=>have:=s.rel.dead_lt hm; omega
   ·have hst:=(tr.step q j oj hq hj).1
    rcases hst with ⟨_,hst⟩ | ⟨hw',_⟩
    ·obtain ⟨ob,e,_⟩:=alloc_val hkj (step_amOp (by omega) hst)
     refine ⟨ob,e,ext2 (q + 1) (by omega) (by omega) _ _ ?_⟩
     rw [e]; simp
    ·rw [hw] at hw'; cases hw'

/-- A quiet operation that lays nothing. -/
theorem HeapInv.stay {listed:Array Bool} {p:Nat} {R R1:Ren} {w w1:World} (k:HeapInv P ops ord A H R0 h0 w0 listed p R w) {i:Nat} (hlt:i < listed.size)
  {o:Oper} (hi:ops[i]?=some o) (hk:kindOf P o.op ≠ 3) (s:Sim P R (H p) w R1 (H p) w1):HeapInv P ops ord A H R0 h0 w0 (listed.setIfInBounds i true) p R1 w1:=by
 have hL:=fun j=>lst_set (listed:=listed) (i:=i) (j:=j) hlt
 refine ⟨k.sim.trans s,?_,k.fp,k.mono,k.base,?_⟩
 ·intro q j oj hq hj hkj
  have hne:j ≠ i:=by rintro rfl; rw [hi] at hj; cases hj; exact hk hkj
  obtain ⟨a1,a2⟩:=k.front q j oj hq hj hkj
  exact ⟨fun h=>(hL j).2 (.inr (a1 h)),fun h hl=>a2 h (((hL j).1 hl).resolve_left hne)⟩
 ·intro q j oj hq hj hkj hw hqp hnl
  obtain ⟨a1,a2,ob,a3,a4⟩:=k.late q j oj hq hj hkj hw hqp (fun hl=>hnl ((hL j).2 (.inr hl)))
  have hb:(H q).size < (H p).size:=(Array.getElem?_eq_some_iff.1 a4).1
  obtain ⟨b1,b2⟩:=s.old _ hb a1
  exact ⟨b1,b2.trans a2,ob,a3,a4⟩

theorem Sim.bindOld {R:Ren} {h:Heap} {w:World} (s:Sim P R0 h0 w0 R h w) {b:Nat} {ob o':Obj} (h1:h[b]?=some ob) (h2:R.map b=none) (h3:R.dead b=false) (hb:h0.size≤b) (ho:ObjR R ob o') (hsl:SlackOk P none ob o') :
  R.le (R.bind b w.heap.size none)∧Sim P R0 h0 w0 (R.bind b w.heap.size none) h (w.alloc o'):=by
 have hne:∀ x g,R.map x=some g→x ≠ b:=by rintro x g e rfl; rw [h2] at e; cases e
 have hle:R.le (R.bind b w.heap.size none) :=
  ⟨fun x g e=>.inl (by simp [Ren.bind,hne x g e,e]),fun x e=>e,fun x g e=>.inl (by simp [Ren.bind,hne x g e]),rfl⟩
 refine ⟨hle,⟨⟨?_,?_,?_,s.rel.glob_le hle⟩,s.le.trans hle,s.hsz,s.canon,?_,s.os,s.tape,s.output,?_,?_,?_,fun x hx hs=>by
  rw [heap_alloc_old w o' x (Nat.lt_of_lt_of_le hx s.wsz)]; exact s.shape x hx hs⟩⟩
 ·intro x y g hx hy
  simp only [Ren.bind] at hx hy
  split at hx <;> split at hy
  ·omega
  ·cases hx; have:=(s.rel.lt hy).2; omega
  ·cases hy; have:=(s.rel.lt hx).2; omega
  ·exact s.rel.inj _ _ _ hx hy
 ·intro x g hx
  simp only [Ren.bind] at hx
  split at hx
  ·rename_i e; subst e; cases hx
   exact ⟨ob,o',h1,World.alloc_heap_new w o',ho.mono hle,by simpa [Ren.bind] using hsl⟩
  ·rename_i e
   obtain ⟨p,p',a1,a2,a3,a4⟩:=s.rel.obj x g hx
   exact ⟨p,p',a1,(heap_alloc_old w o' g (s.rel.lt hx).2).trans a2,a3.mono hle,by simp only [Ren.bind]; rw [if_neg e]; exact a4⟩
 ·intro x hx
  obtain ⟨a1,a2⟩:=s.rel.dead x hx
  refine ⟨?_,a2⟩
  simp only [Ren.bind]
  rw [if_neg]
  ·exact a1
  ·intro e; subst e; have hx':R.dead x=true:=hx; rw [h3] at hx'; cases hx'
 ·intro x hx e
  obtain ⟨a1,a2⟩:=s.old x hx e
  exact ⟨by simp only [Ren.bind]; rw [if_neg (by omega)]; exact a1,a2⟩
 ·have:=s.wsz; simp; omega
 ·intro x hx e
  have:=s.wsz
  rw [heap_alloc_old w o' x (by omega)]
  exact s.conc x hx e
 ·intro x g hx
  simp only [Ren.bind] at hx
  split at hx
  ·rename_i e; cases hx; exact .inr ⟨by omega,.inl s.wsz⟩
  ·exact s.newc x g hx

theorem HeapInv.bind {listed:Array Bool} {p:Nat} {R:Ren} {w:World} (k:HeapInv P ops ord A H R0 h0 w0 listed p R w) {q i:Nat} (hlt:i < listed.size)
  {o:Oper} (hq:ord[q]?=some i) (hi:ops[i]?=some o) (hk:kindOf P o.op=1) (hw:Region.wanted o (yielded ops (A q).tmps)=true) (hqp:q < p) (hnl:¬ Lst listed i)
  {ob o':Obj} (hob:H (q + 1)=(H q).push ob) (ho:ObjR R ob o') (hsl:SlackOk P none ob o') :
  R.le (R.bind (H q).size w.heap.size none)∧HeapInv P ops ord A H R0 h0 w0 (listed.setIfInBounds i true) p (R.bind (H q).size w.heap.size none) (w.alloc o'):=by
 have hL:=fun j=>lst_set (listed:=listed) (i:=i) (j:=j) hlt
 obtain ⟨a1,a2,ob',a3,a4⟩:=k.late q i o hq hi hk hw hqp hnl
 have e:ob'=ob:=by rw [hob] at a3; exact (Array.push_inj_right.1 a3).symm
 subst e
 have hb:h0.size≤(H q).size:=by rw [← k.base]; exact k.mono 0 q (Nat.zero_le _) (by omega)
 obtain ⟨hle,hs⟩:=k.sim.bindOld a4 a1 a2 hb ho hsl
 refine ⟨hle,hs,?_,k.fp,k.mono,k.base,?_⟩
 ·intro r j oj hr hj hkj
  have hne:j ≠ i:=by rintro rfl; rw [hi] at hj; cases hj; omega
  obtain ⟨b1,b2⟩:=k.front r j oj hr hj hkj
  exact ⟨fun h=>(hL j).2 (.inr (b1 h)),fun h hl=>b2 h (((hL j).1 hl).resolve_left hne)⟩
 ·intro r j oj hr hj hkj hwj hrp hnlj
  obtain ⟨b1,b2,ob2,b3,b4⟩:=k.late r j oj hr hj hkj hwj hrp (fun hl=>hnlj ((hL j).2 (.inr hl)))
  refine ⟨?_,b2,ob2,b3,b4⟩
  have hne:r ≠ q:=by
   rintro rfl
   rw [hq] at hr; cases hr
   exact hnlj ((hL i).2 (.inl rfl))
  have hne2:(H r).size ≠ (H q).size:=by
   rcases Nat.lt_or_gt_of_ne hne with h | h
   ·have:=k.mono (r + 1) q (by omega) (by omega)
    rw [b3] at this; simp at this; omega
   ·have:=k.mono (q + 1) r (by omega) (by omega)
    rw [hob] at this; simp at this; omega
  simp only [Ren.bind]
  rw [if_neg hne2]; exact b1

/-- A reading is the same wherever it may be done. -/
theorem Trace.reads (st:Static P ops ord T) (tr:Trace P (SoundCall P) (SoundYield P) ops ord T A H V) {q i:Nat} {o:Oper} (hq:ord[q]?=some i) (hi:ops[i]?=some o) (hk:kindOf P o.op=2) (hw:Region.wanted o (yielded ops (A q).tmps)=true)
  {p:Nat} (hp:p≤ord.length) (hT:∀ (r j:Nat) (oj:Oper),q < r→r < p→ord[r]?=some j→ops[j]?=some oj→kindOf P oj.op=3→T j i=false) :
  ∀ n,q + 1 + n≤p→amOp P (A q).eval o (H (q + 1 + n))=some (V q,H (q + 1 + n))
 | 0,_=>by
  rcases (tr.step q i o hq hi).1 with ⟨_,hs⟩ | ⟨hw',_⟩
  ·have hs:=step_amOp (by omega) hs
   obtain ⟨e,_⟩:=read_mono hk (Ext.refl _) hs
   rw [Nat.add_zero,e]; rw [e] at hs; exact hs
  ·rw [hw] at hw'; cases hw'
 | n + 1,hn=>by
  have ih:=Trace.reads st tr hq hi hk hw hp hT n (by omega)
  have ho:=List.getElem?_eq_getElem (l:=ord) (i:=q + 1 + n) (by omega)
  have hlt:=st.rng _ _ ho
  have hop:=Array.getElem?_eq_getElem hlt
  by_cases hl:kindOf P ops[ord[q + 1 + n]].op=3
  ·rcases (tr.step _ _ _ ho hop).1 with ⟨hw',_⟩ | ⟨_,_,e⟩
   ·exact tr.keep q (q + 1 + n) i _ o _ (by omega) hq ho hi hop hk hl hw hw' (hT _ _ _ (by omega) (by omega) ho hop hl)
   ·have e':H (q + 1 + (n + 1))=H (q + 1 + n):=e
    rw [e']; exact ih
  ·exact (read_mono hk (tr.quiet ho hop hl) ih).2

theorem quiet_wp {ev0:Operand→Value} {o:Oper} {h1 h2:Heap} {v0:Value} (hs:amOp P ev0 o h1=some (v0,h2)) {a':Act} {w w1:World} {s:Next} (hr:(execOp a'.eval o).run P w=.ok s w1) {v':Value} (hv:s=.value v' ∨ (s=.skip∧v'=undef))
  {next:Act→World→Prop} {Q:Exit→Act→World→Prop} (hn:next (a'.put o.dst v') w1) (n:Nat) (ro:Option Nat):o.wpIn (wideR ro) n P a' w next Q:=by
 refine ⟨fun _ _=>trivial,?_⟩
 have hnd:∀ c,o.op ≠ .defer c:=by
  intro c hc
  simp [amOp,hc] at hs
 rw [Oper.semAt_eq _ _ _ hnd,hr]
 rcases hv with rfl | ⟨rfl,rfl⟩ <;> exact hn

theorem ActR.of_tmps {R:Ren} {a b a':Act} (k:ActR R b a') (h1:b.tmps=a.tmps) (h2:b.defers=a.defers):ActR R a a':=⟨h1 ▸ k.tmps,h2 ▸ k.defers⟩

theorem any_sound (st:Static P ops ord T) (tr:Trace P (SoundCall P) (SoundYield P) ops ord T A H V) {Q:Exit→Act→World→Prop} (n:Nat) (ro:Option Nat)
  (hQ:∀ R1 w1 a1',Sim P R0 h0 w0 R1 (H ord.length) w1→ActR R1 (A ord.length) a1'→Q .normal a1' w1) :
  ∀ (fuel:Nat) (listed:Array Bool) (p:Nat) (R:Ren) (b a':Act) (w:World),ActInv ops ord T A V listed b→HeapInv P ops ord A H R0 h0 w0 listed p R w→ActR R b a' →
   listed.toList.countP (fun x=>!x)=fuel→wpAnyIn (wideR ro) n P .any ops Q fuel listed a' w:=by
 intro fuel
 induction fuel with
 | zero =>
  intro listed p R b a' w ka kh kr hc
  have hall:∀ i,i < ops.size→Lst listed i:=by
   intro i hi
   have hil:i < listed.size:=by rw [ka.lsize]; exact hi
   have:=List.countP_eq_zero.1 hc listed[i] (by simp)
   unfold Lst
   simp only [Array.getD_eq_getD_getElem?,Array.getElem?_eq_getElem hil,Option.getD_some]
   simpa using this
  refine ⟨?_,?_⟩
  ·cases hr:Region.ready .any ops listed with
   | nil=>rfl
   | cons i l =>
    have hi:i ∈ Region.ready .any ops listed:=by rw [hr]; simp
    obtain ⟨_,o,ho,_⟩:=mem_ready.1 hi
    exact absurd (hall i (Array.getElem?_eq_some_iff.1 ho).1) (not_lst hi)
  ·have hp:p=ord.length:=by
    rcases kh.fp with e | ⟨_,i,o,h1,h2,h3⟩
    ·exact e
    ·exact absurd (hall i (st.rng p i h1)) ((kh.front p i o h1 h2 h3).2 (Nat.le_refl _))
   subst hp
   refine hQ R w a' kh.sim (kr.of_tmps ?_ ?_)
   ·apply Array.ext_getElem?
    intro t
    by_cases hw:∃ (r j:Nat) (oj:Oper),ord[r]?=some j∧ops[j]?=some oj∧oj.dst=some t
    ·obtain ⟨r,j,oj,h1,h2,h3⟩:=hw
     have hrl:r < ord.length:=(List.getElem?_eq_some_iff.1 h1).1
     by_cases hts:t < (A 0).tmps.size
     ·rw [ka.put r j oj t h1 h2 (hall j (st.rng r j h1)) h3 hts,tr.put st hts h1 h2 h3 ord.length (Nat.le_refl _) hrl]
     ·rw [Array.getElem?_eq_none (by rw [ka.size]; exact Nat.le_of_not_lt hts),Array.getElem?_eq_none (by rw [(tr.size st _ (Nat.le_refl _)).1]; exact Nat.le_of_not_lt hts)]
    ·have hno:∀ (r j:Nat) (oj:Oper),ord[r]?=some j→ops[j]?=some oj→oj.dst ≠ some t:=fun r j oj h1 h2 h3=>hw ⟨r,j,oj,h1,h2,h3⟩
     rw [ka.same t fun r j oj h1 h2 _=>hno r j oj h1 h2,tr.same st t _ (Nat.le_refl _) fun r j oj _ h1 h2=>hno r j oj h1 h2]
   ·rw [ka.defers,(tr.size st _ (Nat.le_refl _)).2]
 | succ fuel ih =>
  intro listed p R b a' w ka kh kr hc
  refine ⟨fun hnil=>?_,fun i hr=>?_⟩
  ·exfalso
   have key:∀ (q i:Nat),ord[q]?=some i→¬ Lst listed i→Region.ready .any ops listed ≠ []:=by
    intro q
    induction q using Nat.strongRecOn with
    | _ q ihq =>
     intro i hq hnl
     have hlt:=st.rng q i hq
     by_cases hall:∀ e ∈ ops[i].after,Region.binds .any e=true→Lst listed e.on
     ·intro hnil
      have:i ∈ Region.ready .any ops listed:=mem_ready.2 ⟨by
       have hil:i < listed.size:=by rw [ka.lsize]; exact hlt
       unfold Lst at hnl
       simp only [Array.getD_eq_getD_getElem?,Array.getElem?_eq_getElem hil,Option.getD_some] at hnl ⊢
       simpa using hnl,ops[i],Array.getElem?_eq_getElem hlt,hall⟩
      rw [hnil] at this; cases this
     ·have:∃ e ∈ ops[i].after,Region.binds .any e=true∧¬ Lst listed e.on:=by
       refine Classical.byContradiction fun hno=>hall fun e he hb=>Classical.byContradiction fun hn=>hno ⟨e,he,hb,hn⟩
      obtain ⟨e,he,hb,hn⟩:=this
      obtain ⟨r,hrq,hor⟩:=st.edges q i _ e hq (Array.getElem?_eq_getElem hlt) he hb
      exact ihq r hrq e.on hor hn
   have hex:∃ i,i < ops.size∧¬ Lst listed i:=by
    refine Classical.byContradiction fun hno=>?_
    have:listed.toList.countP (fun x=>!x)=0:=by
     rw [List.countP_eq_zero]
     intro x hx
     obtain ⟨i,hi,e⟩:=List.getElem_of_mem hx
     have hil:i < listed.size:=by simpa using hi
     have hL:Lst listed i:=Classical.byContradiction fun hn=>hno ⟨i,by rw [← ka.lsize]; exact hil,hn⟩
     unfold Lst at hL
     simp only [Array.getD_eq_getD_getElem?,Array.getElem?_eq_getElem hil,Option.getD_some] at hL
     rw [← e]
     simp [hL]
    omega
   obtain ⟨i,hi,hn⟩:=hex
   obtain ⟨q,hq⟩:=st.cov i hi
   exact key q i hq hn hnil
  ·obtain ⟨_,o,ho,_⟩:=mem_ready.1 hr
   have hlt:i < ops.size:=(Array.getElem?_eq_some_iff.1 ho).1
   have hil:i < listed.size:=by rw [ka.lsize]; exact hlt
   have hnl:=not_lst hr
   obtain ⟨q,hq⟩:=st.cov i hlt
   have hql:q < ord.length:=(List.getElem?_eq_some_iff.1 hq).1
   have hsee:=fun t ht=>ka.sees st tr hq ho hr (t:=t) ht
   have hwb:Region.wanted o (yielded ops a'.tmps)=Region.wanted o (yielded ops (A q).tmps):=by
    have:yielded ops a'.tmps=yielded ops b.tmps:=funext (kr.yielded ops)
    rw [this]; exact wanted_same hsee
   have ka':=ka.next st hq ho hr
   have hc':(listed.setIfInBounds i true).toList.countP (fun x=>!x)=fuel:=by
    rw [Array.toList_setIfInBounds,List.countP_set (by simpa using hil)]
    have hx:listed.toList[i]'(by simpa using hil)=false:=by
     unfold Lst at hnl
     simp only [Array.getD_eq_getD_getElem?,Array.getElem?_eq_getElem hil,Option.getD_some] at hnl
     simpa using hnl
    rw [hx,hc]; simp
   have hfront:kindOf P o.op ≠ 0→q≤p∧(kindOf P o.op ≠ 3→q < p):=by
    intro hk0
    have h1:¬ p < q:=by
     intro hpq
     rcases kh.fp with e | ⟨_,j,oj,g1,g2,g3⟩
     ·omega
     ·have:=st.loud p q j i oj o hpq g1 hq g2 ho g3 hk0
      exact (kh.front p j oj g1 g2 g3).2 (Nat.le_refl _) (ready_anc st ka.closed hr this)
    refine ⟨by omega,fun hk3=>?_⟩
    have h2:q ≠ p:=by
     rintro rfl
     rcases kh.fp with e | ⟨_,j,oj,g1,g2,g3⟩
     ·omega
     ·rw [hq] at g1; cases g1; rw [ho] at g2; cases g2; exact hk3 g3
    omega
   have hloud:kindOf P o.op=3→q=p:=by
    intro hk
    have h1:=(hfront (by omega)).1
    by_cases h2:q < p
    ·exact absurd ((kh.front q i o hq ho hk).1 h2) hnl
    ·omega
   unfold wpOpIn
   simp only [ho]
   rw [hwb]
   rcases (tr.step q i o hq ho).1 with ⟨hw,hs⟩ | ⟨hw,hv,hh⟩
   ·rw [if_pos hw]
    have hok:=hs.1
    have hops:∀ x ∈ o.op.operands,VR R ((A q).eval x) (a'.eval x):=by
     intro x hx
     rw [← eval_same hsee hx]
     exact kr.eval kh.sim.rel.glob (Array.all_eq_true_iff_forall_mem.1 hok x hx)
    rcases kind_le (P:=P) o.op with k0 | k1 | k2 | k3
    ·have hs':=step_amOp (by omega) hs
     obtain ⟨v',r1,r2⟩:=(pure_val k0 hs').2 R a'.eval w hops
     exact quiet_wp hs' r1 (.inl rfl) (ih _ p R _ _ w ka' (kh.stay hil ho (by omega) (.refl kh.sim.rel)) (kr.put o.dst r2) hc') n ro
    ·have hs':=step_amOp (by omega) hs
     obtain ⟨ob,e,hrun⟩:=alloc_val k1 hs'
     obtain ⟨v',o',r1,r2,r3,r4⟩:=hrun R a'.eval w hops
     obtain ⟨hle,kh'⟩:=kh.bind hil hq ho k1 hw ((hfront (by omega)).2 (by omega)) hnl e r2 r3
     exact quiet_wp hs' r1 (.inl rfl) (ih _ p _ _ _ _ ka' kh' ((kr.mono hle).put o.dst (r4 _ (by simp [Ren.bind]))) hc') n ro
    ·have hs':=step_amOp (by omega) hs
     have hqp:=(hfront (by omega)).2 (by omega)
     have hpl:p≤ord.length:=by rcases kh.fp with e | ⟨e,_⟩ <;> omega
     have hrd:=tr.reads st hq ho k2 hw hpl (fun r j oj g1 g2 g3 g4 g5=>by
      cases hT:T j i with
      | false=>rfl
      | true=>exact absurd (ka.closed j i ((kh.front r j oj g3 g4 g5).1 g2) hT) hnl) (p - (q + 1)) (by omega)
     rw [show q + 1 + (p - (q + 1))=p by omega] at hrd
     obtain ⟨R1,w1,v',r1,r2,r3⟩:=amOp_sim kh.sim.rel hops hrd
     rcases r1 with r1 | ⟨r1,r1'⟩
     ·exact quiet_wp hs' r1 (.inl rfl) (ih _ p R1 _ _ w1 ka' (kh.stay hil ho (by omega) r3) ((kr.mono r3.le).put o.dst r2) hc') n ro
     ·exact quiet_wp hs' r1 (.inr ⟨rfl,r1'⟩) (ih _ p R1 _ _ w1 ka' (kh.stay hil ho (by omega) r3) ((kr.mono r3.le).put o.dst r2) hc') n ro
    ·have e:=hloud k3
     subst e
     refine step_sound kh.sim.rel hops hs ?_ n ro
     intro R1 w1 v' s1 r2
     obtain ⟨p',kh'⟩:=kh.advance st tr ka.lsize hq ho k3 s1
     exact ih _ p' R1 _ _ w1 ka' kh' ((kr.mono s1.le).put o.dst r2) hc'
   ·rw [if_neg (by rw [hw]; simp)]
    refine ⟨fun _ _=>trivial,?_⟩
    rw [hv] at ka'
    by_cases hk3:kindOf P o.op=3
    ·have e:=hloud hk3
     subst e
     obtain ⟨p',kh'⟩:=kh.advance st tr ka.lsize hq ho hk3 (R1:=R) (w1:=w) (by rw [hh]; exact .refl kh.sim.rel)
     exact ih _ p' R _ _ w ka' kh' (kr.put o.dst VR_undef) hc'
    ·exact ih _ p R _ _ w ka' (kh.stay hil ho hk3 (.refl kh.sim.rel)) (kr.put o.dst VR_undef) hc'
end
end Go.AM
