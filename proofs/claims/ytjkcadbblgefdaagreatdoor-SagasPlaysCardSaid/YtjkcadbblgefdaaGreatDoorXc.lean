/- The table's Copy: each saga's copy, as a call over a world. -/
import Derived.Test.YtjkcadbblgefdaaGreatDoorTj
import Derived.Test.YtjkcadbblgefdaaGreatDoorBmv
import Derived.WalkKit
import Derived.Maps.Ext
import Derived.Laws.IdiomRangeMap
import Derived.Deep.RegionHeld3
open Go Go.AM Go.Proofs
namespace C29


/-- How a saga's steps lie, how many there are, and the saga with its steps elsewhere. -/
def cfS (x:SagA):Array Value:=flat stepc x.1.d.xs
def nfS (x:SagA):Nat:=x.1.d.xs.length
def mkS (x:SagA) (nb:Nat):SagA:=(x.1,some ⟨nb,0,none⟩,x.1.d.xs.length)
theorem saga_shape {R:Ren} {x:SagA} {v':Value}:VR R (sagV x) v' ↔ ∃ l',v'=.agg #[(vS x.1.d.name),(vI (x.1.d.rt)),(vI (x.1.d.dl)),l',(vI (x.1.st)),(vI (x.1.ix)),(vB x.1.cn),(vI (x.1.tr)),(vI (x.1.bg)),(vI (x.1.er))]∧VR R (sagL x) l':=by
  unfold sagV sagL
  rw [VR_agg]
  constructor
  · rintro ⟨⟨l⟩,rfl,hs,hv⟩
    rcases l with _ | ⟨a0,_ | ⟨a1,_ | ⟨a2,_ | ⟨a3,_ | ⟨a4,_ | ⟨a5,_ | ⟨a6,_ | ⟨a7,_ | ⟨a8,_ | ⟨a9,_ | ⟨a10,l⟩⟩⟩⟩⟩⟩⟩⟩⟩⟩⟩ <;> simp at hs
    have e0:a0=(vS x.1.d.name):=flatV_eq rfl (hv 0 (vS x.1.d.name) a0 rfl rfl)
    have e1:a1=(vI x.1.d.rt):=flatV_eq rfl (hv 1 (vI x.1.d.rt) a1 rfl rfl)
    have e2:a2=(vI x.1.d.dl):=flatV_eq rfl (hv 2 (vI x.1.d.dl) a2 rfl rfl)
    have e3:=hv 3 _ a3 rfl rfl
    have e4:a4=(vI x.1.st):=flatV_eq rfl (hv 4 (vI x.1.st) a4 rfl rfl)
    have e5:a5=(vI x.1.ix):=flatV_eq rfl (hv 5 (vI x.1.ix) a5 rfl rfl)
    have e6:a6=(vB x.1.cn):=flatV_eq rfl (hv 6 (vB x.1.cn) a6 rfl rfl)
    have e7:a7=(vI x.1.tr):=flatV_eq rfl (hv 7 (vI x.1.tr) a7 rfl rfl)
    have e8:a8=(vI x.1.bg):=flatV_eq rfl (hv 8 (vI x.1.bg) a8 rfl rfl)
    have e9:a9=(vI x.1.er):=flatV_eq rfl (hv 9 (vI x.1.er) a9 rfl rfl)
    exact ⟨a3,by rw [e0,e1,e2,e4,e5,e6,e7,e8,e9],e3⟩
  · rintro ⟨l',rfl,h⟩
    refine ⟨_,rfl,rfl,fun i v v' h1 h2=>?_⟩
    match i,h1,h2 with
    | 0,h1,h2=>cases h1; cases h2; exact flatV_VR rfl
    | 1,h1,h2=>cases h1; cases h2; exact flatV_VR rfl
    | 2,h1,h2=>cases h1; cases h2; exact flatV_VR rfl
    | 3,h1,h2=>cases h1; cases h2; exact h
    | 4,h1,h2=>cases h1; cases h2; exact flatV_VR rfl
    | 5,h1,h2=>cases h1; cases h2; exact flatV_VR rfl
    | 6,h1,h2=>cases h1; cases h2; exact flatV_VR rfl
    | 7,h1,h2=>cases h1; cases h2; exact flatV_VR rfl
    | 8,h1,h2=>cases h1; cases h2; exact flatV_VR rfl
    | 9,h1,h2=>cases h1; cases h2; exact flatV_VR rfl
    | i + 10,h1,_=>simp at h1
theorem cfS_flat (x:SagA):∀ v ∈ cfS x,flatV v=true:=by
  unfold cfS
  induction x.1.d.xs with
  | nil=>intro v hv; simp [flat] at hv
  | cons a l ih =>
    intro v hv
    simp only [flat,Array.mem_append] at hv
    rcases hv with hv | hv
    · simp only [stepc,List.mem_toArray,List.mem_cons,List.not_mem_nil,or_false] at hv
      rcases hv with rfl | rfl <;> rfl
    · exact ih v hv
theorem copys_round {R:Ren} {h:Heap} {W:World} (k:Rel Tryz.prog R (hget h) W) (x:SagA) (own:OwnAt h 67 stepc x.1.d.xs (sagL x)) (ne:x.1.d.xs ≠ []) (len:x.1.d.xs.length≤1048576) {v':Value} (hv:VR R (sagV x) v') :
    Calls Tryz.prog 65 #[v'] W fun e W'=>∃ v2 g r o',e=.returned v2∧Sim Tryz.prog R h W R h W'∧(∀ g',g' < W.heap.size→(∀ b,R.map b=some g'→¬ blk (sagL x) b)→W'.heap[g']?=W.heap[g']?)∧W.heap.size≤g ∧
      ∀ w0:World,w0.heap.size≤W.heap.size→EntOk Tryz.prog 67 cfS nfS sagV mkS w0 W' x v2 g r o':=by
  obtain ⟨s,sa,cp⟩:=x
  have own0:=own
  rcases own with ⟨_,q⟩ | ⟨_,_,q,_⟩ | ⟨p,e,_,hr⟩
  · exact absurd q ne
  · exact absurd q ne
  simp only [sagL,Value.slice.injEq] at e
  obtain ⟨rfl,-,rfl⟩:=e
  have hc:=cfS_flat (s,some ⟨p,0,none⟩,s.d.xs.length)
  have ownP:OwnAt (pickH h p) 67 stepc s.d.xs (.slice (some ⟨p,0,none⟩) s.d.xs.length s.d.xs.length):=.inr (.inr ⟨p,rfl,ne,by rw [pickH_at,hr]⟩)
  obtain ⟨_,h2,snd,w,cw,rfl,own2,ext,fresh⟩:=copys_ok (pickH h p) s _ _ (OwnAt.lat ownP stepc_size (tsz_of size67)) len
  have k2:=k.pick hr hc
  obtain ⟨l',rfl,hl⟩:=saga_shape.1 hv
  have hargs:ArrR (VR (R.pick h p)) #[sagV (s,some ⟨p,0,none⟩,s.d.xs.length)] #[.agg #[(vS s.d.name),(vI (s.d.rt)),(vI (s.d.dl)),l',(vI (s.st)),(vI (s.ix)),(vB s.cn),(vI (s.tr)),(vI (s.bg)),(vI (s.er))]] :=
    ⟨rfl,fun i v v' h1 h2=>by
      match i,h1,h2 with
      | 0,h1,h2=>cases h1; cases h2; exact saga_shape.2 ⟨l',rfl,pick_slice k hr hl⟩
      | i + 1,h1,_=>simp at h1⟩
  refine (calls_of_sound snd k2 hargs).mono ?_
  rintro e W' ⟨R1,v1,rfl,sim,hv1⟩
  rcases own2 with ⟨_,q⟩ | ⟨_,_,q,_⟩ | ⟨b2,e2,_,hr2⟩
  · exact absurd q ne
  · exact absurd q ne
  simp only [Value.slice.injEq] at e2
  obtain ⟨rfl,-,rfl⟩:=e2
  obtain ⟨l2,rfl,hl2⟩:=(saga_shape (x:=(s,some ⟨b2,0,none⟩,s.d.xs.length))).1 hv1
  have hb2:h.size≤b2:=by have:=fresh b2 rfl; rw [pickH_size] at this; exact this
  obtain ⟨g,r,o',q1,q2,q3⟩:=clone_ofPick sim hr2 hc (fun g hg=>Sim.freshPick k sim ext hr hg hb2) (fun q=>ne (List.eq_nil_of_length_eq_zero q)) hl2
  refine ⟨_,g,r,o',rfl,Sim.forgetPick k sim ext hr hc,fun g' hg' hn=>sim.conc g' hg' fun b hb=>?_,q2,fun w0 hw0=>⟨q1,Nat.le_trans hw0 q2,l2,q3,fun R' nb hvr=>saga_shape.2 ⟨l2,rfl,hvr⟩⟩⟩
  obtain ⟨rfl,hb1⟩:=pick_map hb
  exact hn _ hb1 rfl
open Go.RowKit Go.Maps
theorem eq_nilmap (b:Nat) (w:World):(binOp BinOp.eql 55 (Value.map (some b)) (Value.map none)).run Tryz.prog w=.ok (.bool false) w:=by kernel_rfl
set_option maxRecDepth 100000 in
set_option maxHeartbeats 1000000 in
theorem made_world (t' b:Nat) (w:World) (hc:w.cell? ⟨t',0,none⟩=some (.map (some b))) :
    Calls Tryz.prog 47 #[.pointer (some ⟨t',0,none⟩)] w fun e w'=>e=.returned (.int .i64 0)∧w'=w:=by
  have hq:=fun w=>eq_nilmap b w
  go_enter Tryz.func47,Tryz.ntmps47
  go_wp2
  go_ret
  exact ⟨rfl,rfl⟩
set_option maxRecDepth 100000 in
set_option maxHeartbeats 1000000 in
theorem new_world (w:World) :
    Calls Tryz.prog 12 #[] w fun e w'=>e=.returned (.pointer (some ⟨w.heap.size + 1,0,none⟩))∧w'=(w.alloc (.map #[] 0)).alloc (.cells #[.map (some w.heap.size)] 57 (0,0)):=by
  have hmm:=@run_makeMap Tryz.prog
  go_enter Tryz.func12,Tryz.ntmps12
  go_wp2
  go_ret
  simp
theorem und3:Tryz.prog.underlying 3=some (.int .i64):=by kernel_rfl
theorem und55x:Tryz.prog.underlying 55=some (.map 3 38):=by kernel_rfl
theorem ranges_keep {H:Type} {P:Program} {kt:TypeId} {Rd:Value→Option (DataW H × List MemPlace)} {w w':World} {b r n:Nat} {D:DataW H} {left:Lit→Bool} {cnt:Nat} (q:w.ranges P kt Rd b r n D left cnt) (hb:w'.heap[b]?=w.heap[b]?) (hr:w'.heap[r]?=w.heap[r]?):w'.ranges P kt Rd b r n D left cnt:=by
  obtain ⟨es,clock,since,seen,c0,q1,q2,q3,q4,q5,q6⟩:=q
  exact ⟨es,clock,since,seen,c0,hb.trans q1,q2,q3,q4,hr.trans q5,q6⟩
theorem cell_at {w:World} {b i:Nat} {c:Array Value} {e:TypeId} {fr:Nat × Nat} {v:Value} (hb:w.heap[b]?=some (.cells c e fr)) (hv:c[i]?=some v):w.cell? ⟨b,i,none⟩=some v:=by simp [World.cell?,hb,hv]
set_option maxRecDepth 100000 in
set_option maxHeartbeats 4000000 in
theorem copy_world {R:Ren} {h:Heap} {w:World} (k:Rel Tryz.prog R (hget h) w) {t t' mb:Nat} {ms:TabS} {O:Nat→Prop} (tb:TbRow 57 h O t ms mb) (fine:∀ p ∈ ms,p.2.1.d.xs ≠ []∧p.2.1.d.xs.length≤1048576)
    (small:∀ p ∈ ms,(Lit.int .i64 p.1).wf=true) (few:ms.length≤1000000) (ht:R.map t=some t') :
    Calls Tryz.prog 24 #[.pointer (some ⟨t',0,none⟩)] w fun e' w'=>∃ T' M' es' ck' G Rr O',e'=.returned (.pointer (some ⟨T',0,none⟩))∧CopyPost Tryz.prog R h w 67 57 cfS nfS sagV mkS ms w' T' M' es' ck' G Rr O':=by
  have K:Keyed Tryz.prog 3:=int_keyed und3
  -- the table,as it lies in the world
  obtain ⟨b,hc,hbr⟩:∃ b,w.cell? ⟨t',0,none⟩=some (.map (some b))∧BR R mb b:=by
    obtain ⟨o,o',q1,q2,q3,_⟩:=k.obj t t' ht
    simp only [hget,tb.row,Option.some.injEq] at q1
    subst q1
    obtain ⟨c',e',fr',rfl,q4,q5,_⟩:=q3
    obtain ⟨mv,q6,q7⟩:=q5 0 (.map (some mb)) rfl
    rw [VR_map] at q7
    obtain ⟨r',rfl,hbr⟩:=q7
    exact ⟨r',by simp [World.cell?,q2,q6],hbr⟩
  obtain ⟨n,D0,hown,hmap,hsize,hall,hat0⟩:=map_source k hbr tb.map und3 small few
  have hapart:(ms.map (·.1)).Nodup:=by obtain ⟨_,_,_,M⟩:=tb.map; exact M.apart
  have hlt:=(k.lt ht).2
  have hbl:=hown.lt
  go_enter Tryz.func24,Tryz.ntmps24
  go_wp2_with (first
    | (go_at_call 47; refine (made_world t' b _ hc).mono ?_; rintro e w' ⟨rfl,rfl⟩)
    | (go_at_call 12; refine (new_world _).mono ?_; rintro e w' ⟨rfl,rfl⟩)
    | (at_range; refine wpList_range_own _ rfl _ 55 rfl 3 38 K und55x heldR b n D0 rfl ((hown.alloc _).alloc _) ?_; intro w0 hrg0 hg0 hs0))
  go_frame
  have hr1:((w'.alloc (Obj.map #[] 0)).alloc (Obj.cells #[Value.map (some w'.heap.size)] 57)).heap.size=w'.heap.size + 2:=by simp
  rw [hr1] at hrg0 hs0 ⊢
  have old0:∀ g,g < w'.heap.size→w0.heap[g]?=w'.heap[g]?:=fun g hg=>by
    rw [hg0.block g (by simp; omega) (by simp),(MapKept.heap_alloc _ _).2 g (by simp; omega),(MapKept.heap_alloc _ _).2 g hg]
  have atM0:w0.heap[w'.heap.size]?=some (.map #[] 0):=by
    rw [hg0.block _ (by simp; omega) (by simp),(MapKept.heap_alloc _ _).2 _ (by simp),(MapKept.heap_alloc _ _).1]
  have atT0:w0.heap[w'.heap.size + 1]?=some (.cells #[Value.map (some w'.heap.size)] 57 (0,0)):=by
    rw [hg0.block _ (by simp) (by simp)]
    have:=(MapKept.heap_alloc (w'.alloc (Obj.map #[] 0)) (Obj.cells #[Value.map (some w'.heap.size)] 57)).1
    simpa using this
  have sim0:Sim Tryz.prog R h w' R h w0:=(Sim.refl k).beside k old0 hg0.os hg0.tape hg0.output (by omega)
  go_loopw [4] (fun _ wr=>∃ (left:Lit→Bool) (cnt:Nat) (es:Array MapEntry) (ck:Nat) (G Rr:Int→Nat) (O':Int→Obj),wr.ranges Tryz.prog 3 heldR b (w'.heap.size + 2) n D0 left cnt ∧
      Filling Tryz.prog R h w' 67 57 cfS nfS sagV mkS ms (w'.heap.size + 1) w'.heap.size (w'.heap.size + 2) left wr es ck G Rr O'∧(∀ kl,left kl=true→has D0 kl=true))
    (fun _ wr=>wr.rangeLeft b (w'.heap.size + 2))
  case atStart =>
    exact ⟨_,_,_,_,_,_,_,hrg0,filling_start sim0 atM0 atT0 (Nat.le_refl _) (by omega) hall,fun _ q=>q⟩
  case round =>
    obtain ⟨left,cnt,es,ck,G,Rr,O',hrg,fil,hleft⟩:=hrel
    go_wp2_with (first
      | (at_next; refine wpList_next_ranges _ rfl _ rfl 3 K heldR id id (fun key _ _=>⟨key,rfl⟩) (fun v _ _=>⟨v,rfl⟩) b (w'.heap.size + 2) n _ _ _ rfl hrg ?_ ?_))
    · intro hc0 hl0
      go_wp2
      go_ret
      exact ⟨_,_,_,_,_,_,_,rfl,fil.post hapart hl0⟩
    · intro x c kl yd yp w1 cnt1 hkey hlx hv hat hrg1 hltc hg1 hs1 hen
      try simp only [id] at hkey hv hen
      obtain ⟨z,rfl,rfl,hz⟩:=key_lit und3 hkey
      obtain ⟨rfl,rfl⟩:yd=.held c∧yp=[]:=by
        have e:some ((.held c:DataW Value),([]:List MemPlace))=some (yd,yp):=hv
        cases e
        exact ⟨rfl,rfl⟩
      obtain ⟨p,hp,rfl,hvr⟩:=hat0 z c hz (hleft _ hlx) hat
      obtain ⟨l',rfl,hl'⟩:=saga_shape.1 hvr
      obtain ⟨la,ln,lc,rfl⟩:∃ la ln lc,l'=.slice la ln lc:=by
        unfold sagL at hl'
        cases hsa:p.2.2.1 with
        | none=>rw [hsa,VR_nilslice] at hl'; exact ⟨_,_,_,hl'⟩
        | some a=>rw [hsa,VR_slice] at hl'; obtain ⟨a',c',e,_⟩:=hl'; exact ⟨_,_,_,e⟩
      go_wp2
      -- the world in which the saga is copied
      have hwr:wr.heap.size=w1.heap.size:=hs1.symm
      have lt:∀ {W:World} {g:Nat} {o:Obj},W.heap[g]?=some o→g < W.heap.size:=fun q=>(Array.getElem?_eq_some_iff.1 q).1
      have hrsz:w'.heap.size + 2 < wr.heap.size:=by have:=hrg.lt; omega
      obtain ⟨W1,hW1⟩:∃ W1:World,W1=(w1.alloc (Obj.cells #[Value.string p.snd.fst.d.name,Value.int IntKind.i64 p.snd.fst.d.rt,Value.int IntKind.i64 p.snd.fst.d.dl,Value.slice la ln lc,Value.int IntKind.i64 p.snd.fst.st,Value.int IntKind.i64 p.snd.fst.ix,Value.bool p.snd.fst.cn,Value.int IntKind.i64 p.snd.fst.tr,Value.int IntKind.i64 p.snd.fst.bg,Value.int IntKind.i64 p.snd.fst.er] 38)):=⟨_,rfl⟩
      rw [← hW1]
      have hB5:W1.drew.heap[wr.heap.size]?=some (Obj.cells #[Value.string p.snd.fst.d.name,Value.int IntKind.i64 p.snd.fst.d.rt,Value.int IntKind.i64 p.snd.fst.d.dl,Value.slice la ln lc,Value.int IntKind.i64 p.snd.fst.st,Value.int IntKind.i64 p.snd.fst.ix,Value.bool p.snd.fst.cn,Value.int IntKind.i64 p.snd.fst.tr,Value.int IntKind.i64 p.snd.fst.bg,Value.int IntKind.i64 p.snd.fst.er] 38 (0,0)):=by
        rw [hwr,hW1]; exact (MapKept.heap_alloc w1 _).1
      have hW1s:W1.drew.heap.size=w1.heap.size + 1:=by rw [hW1]; simp [World.drew]
      have old1:∀ g,g < wr.heap.size→W1.drew.heap[g]?=w1.heap[g]?:=fun g hg=>by rw [hW1]; exact (MapKept.heap_alloc w1 _).2 g (by omega)
      have filD:Filling Tryz.prog R h w' 67 57 cfS nfS sagV mkS ms (w'.heap.size + 1) w'.heap.size (w'.heap.size + 2) left W1.drew es ck G Rr O' :=
        fil.keep k (fun g hg hne=>(old1 g hg).trans (hg1.block g hg (fun e=>hne (Option.some.inj e)))) (by omega) (by omega) (by omega) (by rw [hW1]; exact hg1.os) (by rw [hW1]; exact hg1.tape) (by rw [hW1]; exact hg1.output) (by omega)
      have hrgD:W1.drew.ranges Tryz.prog 3 heldR b (w'.heap.size + 2) n D0 (fun z=>left z && !z.sameKey (.int .i64 p.1)) cnt1:=ranges_keep hrg1 (old1 b (by omega)) (old1 (w'.heap.size + 2) (by omega))
      have far:∀ g,w'.heap.size≤g→∀ b0,R.map b0=some g→¬ blk (sagL p.2) b0:=fun g hg b0 hb0=>by have:=(k.lt hb0).2; omega
      have offb:∀ b0,R.map b0=some b→¬ blk (sagL p.2) b0:=fun b0 hb0 hbk=>by
        have e:=k.inj _ _ _ hb0 hmap
        subst e
        obtain ⟨c1,e1,fr1,q⟩:=(tb.lists p hp).celled b0 hbk
        obtain ⟨es1,ck1,q1,_⟩:=tb.map
        rw [q1] at q; cases q
      have cells:∀ W:World,W.heap[w'.heap.size + 1]?=some (.cells #[Value.map (some w'.heap.size)] 57 (0,0))→W.heap[wr.heap.size]?=W1.drew.heap[wr.heap.size]?→(W).cell? ⟨w'.heap.size + 1,0,none⟩=some (Value.map (some w'.heap.size))∧(W).cell? ⟨wr.heap.size,0,none⟩=some (Value.string p.snd.fst.d.name)∧(W).cell? ⟨wr.heap.size,1,none⟩=some (Value.int IntKind.i64 p.snd.fst.d.rt)∧(W).cell? ⟨wr.heap.size,2,none⟩=some (Value.int IntKind.i64 p.snd.fst.d.dl)∧(W).cell? ⟨wr.heap.size,3,none⟩=some (Value.slice la ln lc)∧(W).cell? ⟨wr.heap.size,4,none⟩=some (Value.int IntKind.i64 p.snd.fst.st)∧(W).cell? ⟨wr.heap.size,5,none⟩=some (Value.int IntKind.i64 p.snd.fst.ix)∧(W).cell? ⟨wr.heap.size,6,none⟩=some (Value.bool p.snd.fst.cn)∧(W).cell? ⟨wr.heap.size,7,none⟩=some (Value.int IntKind.i64 p.snd.fst.tr)∧(W).cell? ⟨wr.heap.size,8,none⟩=some (Value.int IntKind.i64 p.snd.fst.bg)∧(W).cell? ⟨wr.heap.size,9,none⟩=some (Value.int IntKind.i64 p.snd.fst.er):=fun W q1 q2=>by
        rw [hB5] at q2
        exact ⟨cell_at q1 rfl,cell_at q2 rfl,cell_at q2 rfl,cell_at q2 rfl,cell_at q2 rfl,cell_at q2 rfl,cell_at q2 rfl,cell_at q2 rfl,cell_at q2 rfl,cell_at q2 rfl,cell_at q2 rfl⟩
      have hS0:=cells W1.drew filD.atT rfl
      have upd:∀ (W2:World) (v2:Value) (g r2:Nat) (o2:Obj),Sim Tryz.prog R h W1.drew R h W2→(∀ g',g' < W1.drew.heap.size→(∀ b,R.map b=some g'→¬ blk (sagL p.2) b)→W2.heap[g']?=W1.drew.heap[g']?)→W1.drew.heap.size≤g →
          (∀ w0:World,w0.heap.size≤W1.drew.heap.size→EntOk Tryz.prog 67 cfS nfS sagV mkS w0 W2 p.2 v2 g r2 o2) →
          ∃ W3,(Instr.mapUpdate 55 (.map (some w'.heap.size)) (.int .i64 p.1) v2).run Tryz.prog W2=.ok () W3∧((W2).cell? ⟨w'.heap.size + 1,0,none⟩=some (Value.map (some w'.heap.size))∧(W2).cell? ⟨wr.heap.size,0,none⟩=some (Value.string p.snd.fst.d.name)∧(W2).cell? ⟨wr.heap.size,1,none⟩=some (Value.int IntKind.i64 p.snd.fst.d.rt)∧(W2).cell? ⟨wr.heap.size,2,none⟩=some (Value.int IntKind.i64 p.snd.fst.d.dl)∧(W2).cell? ⟨wr.heap.size,3,none⟩=some (Value.slice la ln lc)∧(W2).cell? ⟨wr.heap.size,4,none⟩=some (Value.int IntKind.i64 p.snd.fst.st)∧(W2).cell? ⟨wr.heap.size,5,none⟩=some (Value.int IntKind.i64 p.snd.fst.ix)∧(W2).cell? ⟨wr.heap.size,6,none⟩=some (Value.bool p.snd.fst.cn)∧(W2).cell? ⟨wr.heap.size,7,none⟩=some (Value.int IntKind.i64 p.snd.fst.tr)∧(W2).cell? ⟨wr.heap.size,8,none⟩=some (Value.int IntKind.i64 p.snd.fst.bg)∧(W2).cell? ⟨wr.heap.size,9,none⟩=some (Value.int IntKind.i64 p.snd.fst.er))∧((W3).cell? ⟨w'.heap.size + 1,0,none⟩=some (Value.map (some w'.heap.size))∧(W3).cell? ⟨wr.heap.size,0,none⟩=some (Value.string p.snd.fst.d.name)∧(W3).cell? ⟨wr.heap.size,1,none⟩=some (Value.int IntKind.i64 p.snd.fst.d.rt)∧(W3).cell? ⟨wr.heap.size,2,none⟩=some (Value.int IntKind.i64 p.snd.fst.d.dl)∧(W3).cell? ⟨wr.heap.size,3,none⟩=some (Value.slice la ln lc)∧(W3).cell? ⟨wr.heap.size,4,none⟩=some (Value.int IntKind.i64 p.snd.fst.st)∧(W3).cell? ⟨wr.heap.size,5,none⟩=some (Value.int IntKind.i64 p.snd.fst.ix)∧(W3).cell? ⟨wr.heap.size,6,none⟩=some (Value.bool p.snd.fst.cn)∧(W3).cell? ⟨wr.heap.size,7,none⟩=some (Value.int IntKind.i64 p.snd.fst.tr)∧(W3).cell? ⟨wr.heap.size,8,none⟩=some (Value.int IntKind.i64 p.snd.fst.bg)∧(W3).cell? ⟨wr.heap.size,9,none⟩=some (Value.int IntKind.i64 p.snd.fst.er))∧W3.ranges Tryz.prog 3 heldR b (w'.heap.size + 2) n D0 (fun z=>left z && !z.sameKey (.int .i64 p.1)) cnt1 ∧
            ∃ es' ck' G' Rr' O2,Filling Tryz.prog R h w' 67 57 cfS nfS sagV mkS ms (w'.heap.size + 1) w'.heap.size (w'.heap.size + 2) (fun z=>left z && !z.sameKey (.int .i64 p.1)) W3 es' ck' G' Rr' O2:=by
        intro W2 v2 g r2 o2 sim2 same2 new2 ent2
        have fil2:=filD.call sim2 (fun g' hg hl=>same2 g' hl (far g' hg))
        have hup:=update_new (e:=38) und3 und55x fil2.atM (fun x hx=>by obtain ⟨q,hq,e,_⟩:=fil2.only x hx; exact ⟨_,e,small q hq⟩) hz (fun x hx e=>by
          obtain ⟨q,_,e1,e2⟩:=fil2.only x hx
          rw [e] at e1
          have e3:p.1=q.1:=by simpa using e1
          rw [← e3,hlx] at e2; cases e2) v2
        have oth:∀ g',g' ≠ w'.heap.size→(ChangeMaps.setBlock W2 w'.heap.size (.map (es.push ⟨.int .i64 p.1,v2,ck⟩) (ck + 1))).heap[g']?=W2.heap[g']?:=fun g' hne=>ChangeMaps.heap_setBlock_other fil2.atM _ hne
        have keyl:∀ z:Int,(fun z=>left z && !z.sameKey (.int .i64 p.1)) (Lit.int .i64 z)=(left (.int .i64 z) && !decide (z=p.1)):=fun z=>by
          by_cases e:z=p.1
          · subst e; simp [WideAt.sameKey_self (K.key hkey)]
          · have:(Lit.int .i64 z).sameKey (.int .i64 p.1)=false:=Maps.sameKey_ne (by simpa using e)
            simp [e,this]
        refine ⟨_,hup,cells W2 fil2.atT (same2 _ (by omega) (far _ (by omega))),cells _ ((oth _ (by omega)).trans fil2.atT) ((oth _ (by omega)).trans (same2 _ (by omega) (far _ (by omega)))),
          ranges_keep hrgD ((oth b (by omega)).trans (same2 b (by omega) offb)) ((oth (w'.heap.size + 2) (by omega)).trans (same2 (w'.heap.size + 2) (by omega) (far (w'.heap.size + 2) (by omega)))),_,_,_,_,_,
          fil2.put k hp hlx hapart (ent2 w' (by omega)) (fun q hq hql=>?_) (by omega) (by omega) keyl (ChangeMaps.heap_setBlock_same fil2.atM _) oth rfl rfl rfl (by simp [ChangeMaps.setBlock])⟩
        obtain ⟨x,_,_,ok⟩:=filD.ents q hq hql
        have:=lt ok.at'
        omega
      replace k:Hid _:=k
      replace tb:Hid _:=tb
      replace fine:Hid _:=fine
      replace small:Hid _:=small
      replace hall:Hid _:=hall
      replace hat0:Hid _:=hat0
      replace hapart:Hid _:=hapart
      replace hown:Hid _:=hown
      replace hleft:Hid _:=hleft
      replace fil:Hid _:=fil
      replace hrg:Hid _:=hrg
      replace hrg1:Hid _:=hrg1
      replace filD:Hid _:=filD
      replace hrgD:Hid _:=hrgD
      replace old0:Hid _:=old0
      replace old1:Hid _:=old1
      replace far:Hid _:=far
      replace offb:Hid _:=offb
      replace cells:Hid _:=cells
      replace upd:Hid _:=upd
      replace hB5:Hid _:=hB5
      replace sim0:Hid _:=sim0
      replace hg0:Hid _:=hg0
      replace hg1:Hid _:=hg1
      replace atM0:Hid _:=atM0
      replace atT0:Hid _:=atT0
      replace hrg0:Hid _:=hrg0
      replace hvr:Hid _:=hvr
      replace hl':Hid _:=hl'
      replace hat:Hid _:=hat
      replace hv:Hid _:=hv
      replace hen:Hid _:=hen
      replace hkey:Hid _:=hkey
      replace hlx:Hid _:=hlx
      replace hS0:Hid _:=hS0
      replace hW1:Hid _:=hW1
      replace hs1:Hid _:=hs1
      replace hs0:Hid _:=hs0
      replace hr1:Hid _:=hr1
      replace hwr:Hid _:=hwr
      replace hrsz:Hid _:=hrsz
      replace hW1s:Hid _:=hW1s
      replace hltc:Hid _:=hltc
      replace hp:Hid _:=hp
      replace hc:Hid _:=hc
      replace hbr:Hid _:=hbr
      replace hmap:Hid _:=hmap
      replace hsize:Hid _:=hsize
      replace hlt:Hid _:=hlt
      replace hbl:Hid _:=hbl
      replace few:Hid _:=few
      replace ht:Hid _:=ht
      go_region_held3 (fun W:World=>W.cell? ⟨w'.heap.size + 1,0,none⟩=some (Value.map (some w'.heap.size))∧W.cell? ⟨wr.heap.size,0,none⟩=some (Value.string p.snd.fst.d.name)∧W.cell? ⟨wr.heap.size,1,none⟩=some (Value.int IntKind.i64 p.snd.fst.d.rt)∧W.cell? ⟨wr.heap.size,2,none⟩=some (Value.int IntKind.i64 p.snd.fst.d.dl)∧W.cell? ⟨wr.heap.size,3,none⟩=some (Value.slice la ln lc)∧W.cell? ⟨wr.heap.size,4,none⟩=some (Value.int IntKind.i64 p.snd.fst.st)∧W.cell? ⟨wr.heap.size,5,none⟩=some (Value.int IntKind.i64 p.snd.fst.ix)∧W.cell? ⟨wr.heap.size,6,none⟩=some (Value.bool p.snd.fst.cn)∧W.cell? ⟨wr.heap.size,7,none⟩=some (Value.int IntKind.i64 p.snd.fst.tr)∧W.cell? ⟨wr.heap.size,8,none⟩=some (Value.int IntKind.i64 p.snd.fst.bg)∧W.cell? ⟨wr.heap.size,9,none⟩=some (Value.int IntKind.i64 p.snd.fst.er)) (first | exact hS0.out | exact hS2.out | exact hS3.out) (first | (go_at_call 65; refine (copys_round filD.out.sim.rel p.2 (tb.out.lists p hp.out) (fine.out p hp.out).1 (fine.out p hp.out).2 hvr.out).mono ?_; rintro e W2 ⟨v2,g,r2,o2,rfl,sim2,same2,new2,ent2⟩; obtain ⟨W3,hup,hS2,hS3,hrg3,fil3⟩:=upd.out W2 v2 g r2 o2 sim2 same2 new2 ent2; replace hS2:Hid _:=hS2; replace hS3:Hid _:=hS3; replace hrg3:Hid _:=hrg3; replace fil3:Hid _:=fil3; clear sim2 same2 new2 ent2))
      have hrg4:W3.ranges Tryz.prog 3 heldR b (w'.heap.size + 2) n D0 (fun z=>left z && !z.sameKey (.int .i64 p.1)) cnt1:=hrg3.out
      have hrg5:wr.ranges Tryz.prog 3 heldR b (w'.heap.size + 2) n D0 left cnt:=hrg.out
      go_wp2
      go_roundw
      case rel =>
        obtain ⟨es',ck',G',Rr',O2,fil3⟩:=fil3.out
        exact ⟨_,_,_,_,_,_,_,hrg4,fil3,fun kl hkl=>hleft.out kl (by simp only [Bool.and_eq_true] at hkl; exact hkl.1)⟩
      case measure=>rw [hrg4.left_eq,hrg5.left_eq]; exact hltc.out
theorem placed_plain:∀ (n:Nat) (L:TabS),plT (placed mkS n L)=plT L
  | _,[]=>rfl
  | n,p :: L=>by
    have ih:=placed_plain (n + 1) L
    unfold plT at ih ⊢
    rw [placed,List.map_cons,List.map_cons,ih]; rfl
/-- Copy: a table of its own, which holds the same. -/
theorem tcopy_ok (h:Heap) {t:Nat} {m:Tab} {O:Nat→Prop} (tb:TbAt 57 h O t m) (wf:WfT m):WCall Tryz.prog 24 #[.pointer (some ⟨t,0,none⟩)] h fun v h1=>∃ t2 O2,v=.pointer (some ⟨t2,0,none⟩)∧TbAt 57 h1 O2 t2 m∧Ext h h1∧∀ b,O2 b→h.size≤b:=by
  obtain ⟨ms,mb,rfl,row⟩:=tb
  have mem:∀ p ∈ ms,(p.1,p.2.1) ∈ plT ms:=fun p hp=>List.mem_map.2 ⟨p,hp,rfl⟩
  have hf:∀ p ∈ ms,p.2.1.d.xs ≠ []∧p.2.1.d.xs.length≤1048576:=fun p hp=>by
    have q:=defB_of (chkS_zero (wf.fine _ (mem p hp))).1
    simp only at q
    exact ⟨fun e=>by rw [e] at q; simp at q,by omega⟩
  have hs:∀ p ∈ ms,(Lit.int .i64 p.1).wf=true:=fun p hp=>by
    have q:=wf.ids _ (mem p hp)
    simp only at q
    simp only [Lit.wf,decide_eq_true_eq,Bool.and_eq_true,IntKind.min,IntKind.max,IntKind.signed,IntKind.bits]
    simp
    omega
  have few:ms.length≤64:=by have:=wf.few; rw [plT_len] at this; exact this
  have hk:(ms.map (·.1)).Nodup:=by obtain ⟨_,_,_,M⟩:=row.map; exact M.apart
  have snd:=copy_sound (P:=Tryz.prog) (e:=67) (tt:=57) (cf:=cfS) (nf:=nfS) (vf:=sagV) (mk:=mkS) row.row hk (fun p hp=>⟨cfS_flat p.2,fun q=>(hf p hp).1 (List.eq_nil_of_length_eq_zero q)⟩) fun R w t' k ht=>copy_world k row hf hs (by omega) ht
  have ext:Ext h (copyHeap h 57 67 cfS sagV mkS ms):=copyHeap_ext ms
  have listsX:∀ p ∈ placed mkS h.size ms,∃ i q,ms[i]?=some q∧p=(q.1,mkS q.2 (h.size + i)):=fun p hp=>by
    obtain ⟨i,hi⟩:=List.mem_iff_getElem?.1 hp
    rw [placed_at] at hi
    obtain ⟨q,hq,e⟩:=Option.map_eq_some_iff.1 hi
    exact ⟨i,q,hq,e.symm⟩
  refine ⟨_,_,snd,h.size + ms.length + 1,fun b=>b=h.size + ms.length + 1 ∨ b=h.size + ms.length ∨ lstF (placed mkS h.size ms) b,rfl,⟨placed mkS h.size ms,h.size + ms.length,placed_plain _ _,copyHeap_tab ms,copyHeap_map ms hk,fun p hp=>?_,fun b=>Iff.rfl⟩,ext,fun b hb=>?_⟩
  · obtain ⟨i,q,hq,rfl⟩:=listsX p hp
    have r:=copyHeap_row (h:=h) (tt:=57) (e:=67) (cf:=cfS) (vf:=sagV) (mk:=mkS) ms hq
    exact .inr (.inr ⟨h.size + i,rfl,(hf q (List.mem_of_getElem? hq)).1,r⟩)
  · rcases hb with rfl | rfl | ⟨p,hp,hb⟩
    · omega
    · omega
    · obtain ⟨i,q,hq,rfl⟩:=listsX p hp
      have:h.size + i=b:=hb
      omega
end C29
