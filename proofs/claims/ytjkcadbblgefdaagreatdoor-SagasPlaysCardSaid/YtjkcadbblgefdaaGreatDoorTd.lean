/- Tables: the numbers of all sagas. -/
import Derived.Test.YtjkcadbblgefdaaGreatDoorMd
import Derived.Test.YtjkcadbblgefdaaGreatDoorBml
import Derived.Test.YtjkcadbblgefdaaGreatDoorBmi
import Derived.Test.YtjkcadbblgefdaaGreatDoorKx
import Derived.KernelRfl
open Go Go.AM Go.Proofs
namespace C29
theorem agg55:isAggA Tryz.prog 55=some false:=by kernel_rfl
theorem zero38:zeroA Tryz.prog 38=some (Value.agg #[(Value.string .empty),(Value.int .i64 0),(Value.int .i64 0),(Value.slice none 0 0),(Value.int .i64 0),(Value.int .i64 0),(Value.bool false),(Value.int .i64 0),(Value.int .i64 0),(Value.int .i64 0)]):=by kernel_rfl
theorem resE_zero {s:SagaM} {e1 e2 e3 res now:Int} (h:resE s e1 e2 e3 res now=0):chkS s=0∧(0≤res∧res≤18)∧(0≤now∧now≤2147483648)∧s.st < 4∧e1=0∧e2=s.ix∧e3=phS s.st:=by
 unfold resE at h
 by_cases h1:chkS s=0
 ·rw [if_pos h1] at h
  by_cases h2:(0≤res∧res≤18)∧0≤now∧now≤2147483648
  ·rw [if_pos h2] at h
   by_cases h3:s.st < 4
   ·rw [if_pos h3] at h
    by_cases h4:e1=0∧e2=s.ix∧e3=phS s.st
    ·exact ⟨h1,h2.1,h2.2,h3,h4⟩
    ·rw [if_neg h4] at h; cases h
   ·rw [if_neg h3] at h; cases h
  ·rw [if_neg h2] at h; cases h
 ·rw [if_neg h1] at h; exact absurd h h1
theorem bud_zero {t b:Int} (h:budB t b=true):budB 0 b=true:=by have:=budB_of h; exact decide_eq_true (by omega)
theorem ag_ok {t b n:Int} {d:DefM} (hb:budB t b=true) (hd:defB d=true) (h:agB t b d n=true):budB (agT t b d n) (agS t b d n)=true:=by
 have w:=of_decide_eq_true h
 have h1:=budB_of hb
 have h2:=defB_of hd
 unfold agT agS
 rw [if_pos w.1,if_pos w.1]
 exact decide_eq_true (by omega)
theorem chkS_mk {d:DefM} {st ix:Int} {cn:Bool} {tr bg er:Int} (h1:defB d=true) (h2:budB tr bg=true) (h3:(1≤st∧st≤5)∧0≤ix∧(st < 4→ix≤(d.xs.length:Nat) - 1)∧(4≤st→ix≤0)∧¬ (cnI cn=1∧(st=2 ∨ st=4))∧((st=3 ∨ st=5)→1≤er∧er≤18)∧(¬ (st=3 ∨ st=5)→er=0)):chkS ⟨d,st,ix,cn,tr,bg,er⟩=0:=chkS_ok h1 h2 (okI_ok h3)
/-- What follows from a result is possible. -/
theorem nxt_ok {s:SagaM} {res now:Int} (hz:chkS s=0) (hr:0≤res∧res≤18) (h4:s.st < 4):chkS (nxtS s res now)=0:=by
 obtain ⟨zd,zb,zo⟩:=chkS_zero hz
 have hd:=defB_of zd
 have ho:=okI_of zo
 have b0:=bud_zero zb
 have hc:cnI s.cn=0 ∨ cnI s.cn=1:=by cases s.cn <;> simp [cnI]
 have ht:s.cn=true→cnI s.cn=1:=cnI_true
 have hf:¬ s.cn=true→cnI s.cn=0:=fun h=>cnI_false (Bool.eq_false_iff.2 h)
 rcases (show s.st=1 ∨ s.st=2 ∨ s.st=3 by omega) with e | e | e
 ·rw [nxtS_1 e]; unfold fwdS
  rw [amE_eq]
  simp only [decide_eq_true_eq]
  repeat' split
  all_goals refine chkS_mk zd ?_ ?_
  all_goals try dsimp only
  all_goals first | exact b0 | exact ag_ok zb zd (by assumption) | omega | (have:=hf (by assumption); omega) | (have:=ht (by assumption); omega)
 ·rw [nxtS_2 e]; unfold freS
  repeat' split
  all_goals refine chkS_mk zd ?_ ?_
  all_goals try dsimp only
  all_goals first | exact b0 | exact zb | omega
 ·rw [nxtS_3 e]; unfold undS
  repeat' split
  all_goals refine chkS_mk zd ?_ ?_
  all_goals try dsimp only
  all_goals first | exact b0 | exact zb | omega
theorem sta_ok {d:DefM} {n:Int} (h:staE d n=0):chkS (staS d n)=0:=by
 unfold staE at h
 by_cases h1:defB d=true
 ·rw [if_pos h1] at h
  by_cases h2:0≤n∧n≤2147483648
  ·have hd:=defB_of h1
   refine chkS_ok h1 (decide_eq_true (by simp only [staS]; omega)) (okI_ok ?_)
   simp only [staS,cnI]; simp; omega
  ·rw [if_neg h2] at h; cases h
 ·rw [if_neg h1] at h; cases h
theorem can_ok {s:SagaM} (h:canE s=0):chkS (canS s)=0:=by
 unfold canE at h
 by_cases h1:chkS s=0
 ·rw [if_pos h1] at h
  by_cases h2:s.st=1
  ·obtain ⟨zd,zb,zo⟩:=chkS_zero h1
   have ho:=okI_of zo
   refine chkS_mk zd zb ?_
   omega
  ·rw [if_neg h2] at h; cases h
 ·rw [if_neg h1] at h; exact absurd h h1
/-! ### lists by numbers -/
section
variable {α β : Type}
def OrdT (m:List (Int × α)):Prop:=(m.map (·.1)).Pairwise fun a b=>a < b
theorem OrdT.apart {m:List (Int × α)} (h:OrdT m):(m.map (·.1)).Nodup:=h.imp fun {a b} q e=>by omega
def insT (k:Int) (c:α):List (Int × α)→List (Int × α)
 | []=>[(k,c)]
 | p :: m=>if p.1 < k then p :: insT k c m else (k,c) :: p :: m
theorem insT_perm (k:Int) (c:α):∀ m:List (Int × α),(insT k c m).Perm ((k,c) :: m)
 | []=>.refl _
 | p :: m=>by
  unfold insT; split
  ·exact ((insT_perm k c m).cons p).trans (.swap _ _ _)
  ·exact .refl _
theorem insT_mem {k:Int} {c:α} {m:List (Int × α)} {p:Int × α}:p ∈ insT k c m ↔ p=(k,c) ∨ p ∈ m:=by rw [(insT_perm k c m).mem_iff,List.mem_cons]
theorem insT_len (k:Int) (c:α) (m:List (Int × α)):(insT k c m).length=m.length + 1:=by rw [(insT_perm k c m).length_eq]; rfl
theorem insT_ord {k:Int} {c:α}:∀ {m:List (Int × α)},OrdT m→findK m k=none→OrdT (insT k c m)
 | [],_,_=>by simp [insT,OrdT]
 | p :: m,h,hn=>by
  have h':=h
  unfold OrdT at h'
  rw [List.map_cons,List.pairwise_cons] at h'
  rw [findK_cons] at hn
  split at hn
  ·cases hn
  ·rename_i e
   unfold insT; split
   ·rename_i q
    unfold OrdT
    rw [List.map_cons,List.pairwise_cons]
    refine ⟨fun x hx=>?_,insT_ord h'.2 hn⟩
    obtain ⟨y,hy,rfl⟩:=List.mem_map.1 hx
    rcases insT_mem.1 hy with rfl | hy
    ·exact q
    ·exact h'.1 _ (List.mem_map_of_mem hy)
   ·rename_i q
    have q1:k < p.1:=by omega
    unfold OrdT
    rw [List.map_cons,List.pairwise_cons]
    refine ⟨fun x hx=>?_,h⟩
    rw [List.map_cons,List.mem_cons] at hx
    rcases hx with rfl | hx
    ·exact q1
    ·have:=h'.1 _ hx; omega
theorem insT_map (f:α→β) (k:Int) (c:α):∀ m:List (Int × α),(insT k c m).map (fun p=>(p.1,f p.2))=insT k (f c) (m.map fun p=>(p.1,f p.2))
 | []=>rfl
 | p :: m=>by
  simp only [insT,List.map_cons]
  split
  ·rw [List.map_cons,insT_map f k c m]
  ·rfl
theorem findK_map (f:α→β) (k:Int):∀ m:List (Int × α),findK (m.map fun p=>(p.1,f p.2)) k=(findK m k).map f
 | []=>rfl
 | p :: m=>by
  rw [List.map_cons,findK_cons,findK_cons]
  simp only []
  split
  ·rfl
  ·exact findK_map f k m
theorem setK_map (f:α→β) (k:Int) (c:α) (m:List (Int × α)):(setK m k c).map (fun p=>(p.1,f p.2))=setK (m.map fun p=>(p.1,f p.2)) k (f c):=by
 unfold setK
 rw [List.map_map,List.map_map]
 refine List.map_congr_left fun p _=>?_
 simp only [Function.comp_apply]
 split <;> rfl
theorem keys_map (f:α→β) (m:List (Int × α)):(m.map fun p=>(p.1,f p.2)).map (·.1)=m.map (·.1):=by rw [List.map_map]; rfl
theorem setK_ord {k:Int} {c:α} {m:List (Int × α)} (h:OrdT m):OrdT (setK m k c):=by unfold OrdT; rw [setK_keys]; exact h
theorem setK_len (k:Int) (c:α) (m:List (Int × α)):(setK m k c).length=m.length:=by unfold setK; rw [List.length_map]
theorem setK_in {k:Int} {c:α} {m:List (Int × α)} {p:Int × α} (h:p ∈ setK m k c):p=(k,c) ∨ p ∈ m:=by
 unfold setK at h
 obtain ⟨q,hq,e⟩:=List.mem_map.1 h
 split at e
 ·exact .inl e.symm
 ·exact .inr (e ▸ hq)
end
/-! ### tables -/
abbrev Tab:=List (Int × SagaM)
structure WfT (m:Tab):Prop where
 ord:OrdT m
 ids:∀ p ∈ m,1≤p.1∧p.1≤9999
 fine:∀ p ∈ m,chkS p.2=0
 few:m.length≤64
theorem WfT.nil:WfT []:=⟨List.Pairwise.nil,fun p h=>absurd h (by simp),fun p h=>absurd h (by simp),by decide⟩
theorem WfT.at {m:Tab} (w:WfT m) {k:Int} {s:SagaM} (h:findK m k=some s):chkS s=0∧1≤k∧k≤9999:=⟨w.fine _ (findK_mem h),w.ids _ (findK_mem h)⟩
theorem WfT.ins {m:Tab} (w:WfT m) {k:Int} {s:SagaM} (hk:1≤k∧k≤9999) (hs:chkS s=0) (hn:findK m k=none) (hl:m.length < 64):WfT (insT k s m):=by
 refine ⟨insT_ord w.ord hn,fun p hp=>?_,fun p hp=>?_,by rw [insT_len]; omega⟩
 ·rcases insT_mem.1 hp with rfl | hp
  ·exact hk
  ·exact w.ids p hp
 ·rcases insT_mem.1 hp with rfl | hp
  ·exact hs
  ·exact w.fine p hp
theorem WfT.set {m:Tab} (w:WfT m) {k:Int} {s s0:SagaM} (hs:chkS s=0) (h:findK m k=some s0):WfT (setK m k s):=by
 refine ⟨setK_ord w.ord,fun p hp=>?_,fun p hp=>?_,by rw [setK_len]; exact w.few⟩
 ·rcases setK_in hp with rfl | hp
  ·exact (w.at h).2
  ·exact w.ids p hp
 ·rcases setK_in hp with rfl | hp
  ·exact hs
  ·exact w.fine p hp
/-- What the calls of a table give, and the table behind them. -/
def addE (m:Tab) (k:Int):Int:=if (findK m k).isSome=true then 6 else if 64≤m.length then 4 else 0
theorem addE_zero {m:Tab} {k:Int} (h:addE m k=0):findK m k=none∧m.length < 64:=by
 unfold addE at h
 split at h
 ·cases h
 ·rename_i q
  split at h
  ·cases h
  ·exact ⟨Option.isNone_iff_eq_none.1 (by simpa using q),by omega⟩
def startE (m:Tab) (k:Int) (d:DefM) (n:Int):Int:=if (1≤k∧k≤9999)∧0≤n∧n≤2147483648 then (if defB d=true then addE m k else 15) else 2
def startM (m:Tab) (k:Int) (d:DefM) (n:Int):Tab:=if startE m k d n=0 then insT k (staS d n) m else m
def putE (m:Tab) (k:Int) (s:SagaM):Int:=if 1≤k∧k≤9999 then (if chkS s=0 then addE m k else chkS s) else 2
def putM (m:Tab) (k:Int) (s:SagaM):Tab:=if putE m k s=0 then insT k s m else m
def getE (m:Tab) (k:Int):Int:=if (findK m k).isSome=true then 0 else 5
def getS (m:Tab) (k:Int):SagaM:=(findK m k).getD zeroS
def canTE (m:Tab) (k:Int):Int:=if getE m k=0 then canE (getS m k) else 5
def canTM (m:Tab) (k:Int):Tab:=if canTE m k=0 then setK m k (canS (getS m k)) else m
def effD (e k:Int):Int:=IntKind.i64.wrap (e - k)
def resTE (m:Tab) (k e1 e2 e3 res now:Int):Int:=if getE m k=0 then resE (getS m k) (effD e1 k) e2 e3 res now else 5
def resTM (m:Tab) (k e1 e2 e3 res now:Int):Tab:=if resTE m k e1 e2 e3 res now=0 then setK m k (nxtS (getS m k) res now) else m
theorem getE_some {m:Tab} {k:Int} {s:SagaM} (h:findK m k=some s):getE m k=0∧getS m k=s:=by unfold getE getS; rw [h]; exact ⟨rfl,rfl⟩
theorem getE_none {m:Tab} {k:Int} (h:findK m k=none):getE m k=5∧getS m k=zeroS:=by unfold getE getS; rw [h]; exact ⟨rfl,rfl⟩
theorem getE_zero {m:Tab} {k:Int} (h:getE m k=0):findK m k=some (getS m k):=by
 cases q:findK m k with
 | none=>rw [(getE_none q).1] at h; cases h
 | some c=>rw [(getE_some q).2]
theorem getE_ne {m:Tab} {k:Int} (h:¬ getE m k=0):findK m k=none∧getE m k=5∧getS m k=zeroS:=by
 cases q:findK m k with
 | none=>exact ⟨rfl,getE_none q⟩
 | some c=>exact absurd (getE_some q).1 h
structure EffM where
 sg:Int
 sp:Int
 ph:Int
def idsL (m:Tab):List Int:=m.map (·.1)
def opnT (m:Tab):Tab:=m.filter fun p=>decide (p.2.st < 4)
def opnL (m:Tab):List Int:=(opnT m).map (·.1)
def nxtL (m:Tab):List EffM:=(opnT m).map fun p=>⟨p.1,p.2.ix,phS p.2.st⟩
/-! ### tables in a heap -/
/-- A saga, and where its steps lie. -/
abbrev SagA:=SagaM × Option Addr × Nat
def sagV (x:SagA):Value:=.agg #[(vS x.1.d.name),(vI (x.1.d.rt)),(vI (x.1.d.dl)),(Value.slice x.2.1 (x.1.d.xs.length) (x.2.2)),(vI (x.1.st)),(vI (x.1.ix)),(vB x.1.cn),(vI (x.1.tr)),(vI (x.1.bg)),(vI (x.1.er))]
def sagL (x:SagA):Value:=.slice x.2.1 x.1.d.xs.length x.2.2
abbrev TabS:=List (Int × SagA)
def plT (ms:TabS):Tab:=ms.map fun p=>(p.1,p.2.1)
theorem plT_some {ms:TabS} {k:Int} {x:SagA} (h:findK ms k=some x):findK (plT ms) k=some x.1:=by unfold plT; rw [findK_map,h]; rfl
theorem plT_no {ms:TabS} {k:Int} (h:findK ms k=none):findK (plT ms) k=none:=by unfold plT; rw [findK_map,h]; rfl
theorem plT_len (ms:TabS):(plT ms).length=ms.length:=List.length_map ..
theorem plT_keys (ms:TabS):ms.map (·.1)=idsL (plT ms):=by unfold idsL plT; rw [keys_map]
/-- The steps of all sagas. -/
def LstAt (h:Heap) (ms:TabS):Prop:=∀ p ∈ ms,OwnAt h 67 stepc p.2.1.d.xs (sagL p.2)
def lstF (ms:TabS) (b:Nat):Prop:=∃ p ∈ ms,blk (sagL p.2) b
structure TbRow (T:TypeId) (h:Heap) (O:Nat→Prop) (t:Nat) (ms:TabS) (mb:Nat):Prop where
 row:h[t]?=some (.cells #[.map (some mb)] T (0,0))
 map:MapAt h (Value.int .i64) sagV mb ms
 lists:LstAt h ms
 foot:∀ b,O b ↔ b=t ∨ b=mb ∨ lstF ms b
def TbAt (T:TypeId) (h:Heap) (O:Nat→Prop) (t:Nat) (m:Tab):Prop:=∃ ms mb,plT ms=m∧TbRow T h O t ms mb
section
variable {T : TypeId} {h h1 : Heap} {O : Nat → Prop} {t mb : Nat} {m : Tab} {ms : TabS}
theorem LstAt.keep (k:LstAt h ms) (w:∀ b r,lstF ms b→h[b]?=some r→h1[b]?=some r):LstAt h1 ms:=fun p hp=>(k p hp).keep fun b r hb q=>w b r ⟨p,hp,hb⟩ q
theorem LstAt.blk_lt (k:LstAt h ms) {b:Nat} (hb:lstF ms b):b < h.size:=by obtain ⟨p,hp,hb⟩:=hb; exact (k p hp).blk_lt hb
theorem LstAt.celled (k:LstAt h ms):Celled h (lstF ms):=fun b ⟨p,hp,hb⟩=>(k p hp).celled b hb
theorem LstAt.at (k:LstAt h ms) {j:Int} {x:SagA} (hx:findK ms j=some x):LAt h stepc 2 x.1.d.xs (sagL x):=OwnAt.lat (k _ (findK_mem hx)) stepc_size (tsz_of size67)
theorem lstF_at {j:Int} {x:SagA} (hx:findK ms j=some x) {b:Nat} (hb:blk (sagL x) b):lstF ms b:=⟨_,findK_mem hx,hb⟩
theorem TbRow.keep (k:TbRow T h O t ms mb) (w:∀ b r,O b→h[b]?=some r→h1[b]?=some r):TbRow T h1 O t ms mb :=
 ⟨w _ _ ((k.foot _).2 (.inl rfl)) k.row,k.map.keep fun b r hb q=>w b r ((k.foot _).2 (.inr (.inl hb))) q,k.lists.keep fun b r hb q=>w b r ((k.foot _).2 (.inr (.inr hb))) q,k.foot⟩
theorem TbRow.data (k:TbRow T h O t ms mb):Data h O:=by
 intro b hb
 rcases (k.foot b).1 hb with rfl | rfl | hb
 ·exact ⟨_,k.row,rfl⟩
 ·exact k.map.data _ rfl
 ·obtain ⟨c,e,fr,hr⟩:=k.lists.celled b hb; exact ⟨_,hr,rfl⟩
theorem TbAt.keep (k:TbAt T h O t m) (w:∀ b r,O b→h[b]?=some r→h1[b]?=some r):TbAt T h1 O t m:=by
 obtain ⟨ms,mb,e,k⟩:=k; exact ⟨ms,mb,e,k.keep w⟩
theorem TbAt.data (k:TbAt T h O t m):Data h O:=by obtain ⟨ms,mb,e,k⟩:=k; exact k.data
theorem TbAt.blk_lt (k:TbAt T h O t m) {b:Nat} (hb:O b):b < h.size:=k.data.blk_lt hb
theorem MapAt.off {b:Nat} {O:Nat→Prop} (k:MapAt h (Value.int .i64) sagV b ms) (c:Celled h O):∀ z,z=b→¬ O z:=by
 rintro z rfl hz
 obtain ⟨cs,e,fr,hr⟩:=c z hz
 exact k.ne hr rfl
/-- A table that was made. -/
theorem tb_new (hr:h[t]?=some (.cells #[.map (some mb)] T (0,0))) (hm:MapAt h (Value.int .i64) sagV mb ([]:TabS)):TbAt T h (fun b=>b=t ∨ b=mb) t [] :=
 ⟨[],mb,rfl,hr,hm,fun p hp=>absurd hp (by simp),fun b=>⟨fun w=>w.elim .inl fun w=>.inr (.inl w),fun w=>w.elim .inl fun w=>w.elim .inr fun ⟨p,hp,_⟩=>absurd hp (by simp)⟩⟩
/-- One saga is another one. -/
theorem tb_set (k:TbRow T h O t ms mb) {j:Int} {y:SagA} (hr:h1[t]?=some (.cells #[.map (some mb)] T (0,0))) (hm:MapAt h1 (Value.int .i64) sagV mb (setK ms j y)) (hl:LstAt h1 ms)
  (hy:OwnAt h1 67 stepc y.1.d.xs (sagL y)) (hn:∀ b,blk (sagL y) b→O b ∨ h.size≤b):∃ O',TbAt T h1 O' t (setK (plT ms) j y.1)∧∀ b,O' b→O b ∨ h.size≤b:=by
 refine ⟨fun b=>b=t ∨ b=mb ∨ lstF (setK ms j y) b,⟨setK ms j y,mb,?_,hr,hm,fun p hp=>?_,fun b=>Iff.rfl⟩,fun b hb=>?_⟩
 ·unfold plT; exact setK_map (fun x:SagA=>x.1) j y ms
 ·rcases setK_in hp with rfl | hp
  ·exact hy
  ·exact hl p hp
 ·rcases hb with hb | hb | ⟨p,hp,hb⟩
  ·exact .inl ((k.foot b).2 (.inl hb))
  ·exact .inl ((k.foot b).2 (.inr (.inl hb)))
  ·rcases setK_in hp with rfl | hp
   ·exact hn b hb
   ·exact .inl ((k.foot b).2 (.inr (.inr ⟨p,hp,hb⟩)))
/-- One saga more. -/
theorem tb_ins (k:TbRow T h O t ms mb) {j:Int} {y:SagA} (hr:h1[t]?=some (.cells #[.map (some mb)] T (0,0))) (hm:MapAt h1 (Value.int .i64) sagV mb ((j,y) :: ms)) (hl:LstAt h1 ms)
  (hy:OwnAt h1 67 stepc y.1.d.xs (sagL y)) (hn:∀ b,blk (sagL y) b→O b ∨ h.size≤b):∃ O',TbAt T h1 O' t (insT j y.1 (plT ms))∧∀ b,O' b→O b ∨ h.size≤b:=by
 refine ⟨fun b=>b=t ∨ b=mb ∨ lstF (insT j y ms) b,⟨insT j y ms,mb,?_,hr,hm.perm (insT_perm j y ms).symm,fun p hp=>?_,fun b=>Iff.rfl⟩,fun b hb=>?_⟩
 ·unfold plT; exact insT_map (fun x:SagA=>x.1) j y ms
 ·rcases insT_mem.1 hp with rfl | hp
  ·exact hy
  ·exact hl p hp
 ·rcases hb with hb | hb | ⟨p,hp,hb⟩
  ·exact .inl ((k.foot b).2 (.inl hb))
  ·exact .inl ((k.foot b).2 (.inr (.inl hb)))
  ·rcases insT_mem.1 hp with rfl | hp
   ·exact hn b hb
   ·exact .inl ((k.foot b).2 (.inr (.inr ⟨p,hp,hb⟩)))
end
theorem mapty:MapTy Tryz.prog 55 3 38 (Value.int .i64):=MapTy.int (i:=.i64) (by kernel_rfl) (by kernel_rfl)
theorem int_tsz:tsz Tryz.prog 3=1:=tsz_of size3
set_option maxHeartbeats 4000000 in
theorem made_ok (h:Heap) {t mb:Nat} {fr:Nat × Nat} (ht:h[t]?=some (.cells #[.map (some mb)] 57 fr)):WCall Tryz.prog 47 #[(vP t 0)] h (fun v h1=>v=.int .i64 0∧h=h1):=by
 exact hCall_ev [evC 1 6 0 agg55 ht] [] (vI 0) h ⟨rfl,rfl⟩
set_option maxHeartbeats 4000000 in
theorem tnew_ok (h:Heap) :WCall Tryz.prog 12 #[] h (fun v h1=>∃ b O,v=.pointer (some ⟨b,0,none⟩)∧TbAt 57 h1 O b []∧Ext h h1∧∀ z,O z→h.size≤z):=by
 obtain ⟨b1,eb2⟩:∃ zq,zq=h.size:=⟨_,rfl⟩
 obtain ⟨h3,e4⟩:∃ zq,zq=h.push (.map #[] 0):=⟨_,rfl⟩
 have p5:MapAt h3 (Value.int .i64) sagV b1 ([]:TabS):=by rw [eb2]; exact MapAt.make e4
 have x6:Ext h h3:=by rw [e4]; exact Ext.push _ _
 have w7:∀ z,(fun q=>q=b1) z→h.size≤z:=fun z hz=>by have w1:z=b1:=hz; omega
 have x8:=(Ext.refl h).trans x6
 have z9:h.size≤h.size:=(Ext.refl h).size
 have o10:∀ zz,(fun q=>q=b1) zz→h.size≤zz:=fun zz hz=>by have:=w7 zz hz; omega
 obtain ⟨b11,eb12⟩:∃ zq,zq=h3.size:=⟨_,rfl⟩
 obtain ⟨h13,e14⟩:∃ zq,zq=h3.push (.cells #[(Value.map (some b1))] 57 (0,0)):=⟨_,rfl⟩
 have f15:=push_new e14
 rw [← eb12] at f15
 have x16:Ext h3 h13:=by rw [e14]; exact Ext.push _ _
 have o17:h.size≤b11:=by have:=x8.size; omega
 have p18:=p5.keep fun b r _ q=>x16 b r q
 have x19:=x8.trans x16
 exact hCall_ev [evH 1 0 (Value.map (some b1)) h3 (show ((Value.map (some b1))=(Value.map (some h.size))∧h3=h.push (.map #[] 0)) from ⟨by rw [eb2],e4⟩),evA 1 2 eb12 e14] [] (vP b11 0) h13 ⟨b11,_,rfl,tb_new f15 p18,x19,fun z hz=>hz.elim (fun w=>by have:=o17; omega) (fun w=>o10 z w)⟩
set_option maxHeartbeats 4000000 in
theorem ce_ok (h:Heap) (k:Int):WCall Tryz.prog 84 #[(Value.agg #[(vI (k)),(vI 0),(vI 1)])] h (fun v h1=>v=.int .i64 (if 1≤k∧k≤9999 then 0 else 2)∧Ext h h1):=by
 obtain ⟨b1,eb2⟩:∃ zq,zq=h.size:=⟨_,rfl⟩
 obtain ⟨h3,e4⟩:∃ zq,zq=h.push (.cells #[(vI (k)),(vI 0),(vI 1)] 33 (0,0)):=⟨_,rfl⟩
 have f5:=push_new e4
 rw [← eb2] at f5
 have x6:Ext h h3:=by rw [e4]; exact Ext.push _ _
 have o7:h.size≤b1:=by have:=(Ext.refl h).size; omega
 have x8:=(Ext.refl h).trans x6
 by_cases c9:((k):Int) < 1
 ·exact hCall_ev [evA 0 0 eb2 e4,evC 1 1 0 agg3 f5,ltT 1 2 3 c9] [] (vI 2) h3 ⟨by rw [if_neg (by omega)],x8⟩
 ·by_cases c10:(9999:Int) < (k)
  ·exact hCall_ev [evA 0 0 eb2 e4,evC 1 1 0 agg3 f5,ltF 1 2 3 c9,evC 1 5 0 agg3 f5,gtT 1 6 3 c10] [] (vI 2) h3 ⟨by rw [if_neg (by omega)],x8⟩
  ·exact hCall_ev [evA 0 0 eb2 e4,evC 1 1 0 agg3 f5,ltF 1 2 3 c9,evC 1 5 0 agg3 f5,gtF 1 6 3 c10,evC 1 10 1 agg3 f5,evC 1 15 1 agg3 f5,evC 1 20 2 agg3 f5,evC 1 25 2 agg3 f5] [] (vI 0) h3 ⟨by rw [if_pos (by omega)],x8⟩
set_option maxHeartbeats 4000000 in
theorem isid_ok (h:Heap) (k:Int):WCall Tryz.prog 48 #[(vI (k))] h (fun v h1=>v=.bool (decide (1≤k∧k≤9999))∧Ext h h1):=by
 obtain ⟨_,h2,s3,rfl,x4⟩:=ce_ok h (k)
 have x5:=(Ext.refl h).trans x4
 by_cases c6:(1:Int)≤(k)∧((k):Int)≤9999
 ·exact hCall_ev [evF 1 2 (by rw [if_pos c6] at s3; exact s3)] [] (vB true) h2 ⟨by rw [decide_eq_true (by omega)],x5⟩
 ·exact hCall_ev [evF 1 2 (by rw [if_neg c6] at s3; exact s3)] [] (vB false) h2 ⟨by rw [decide_eq_false (by omega)],x5⟩
def addM (m:Tab) (k:Int) (s:SagaM):Tab:=if addE m k=0 then insT k s m else m
theorem addE_some {m:Tab} {k:Int} {s:SagaM} (h:findK m k=some s):addE m k=6:=by unfold addE; rw [h]; rfl
theorem addE_none {m:Tab} {k:Int} (h:findK m k=none):addE m k=if 64≤m.length then 4 else 0:=by unfold addE; rw [h]; rfl
set_option maxHeartbeats 4000000 in
theorem add_ok_r (h:Heap) {O:Nat→Prop} {t mb:Nat} {ms:TabS} (T:TbRow 57 h O t ms mb) (ok:WfT (plT ms)) (k:Int) (s:SagaM) (sa:Option Addr) (cp:Nat) (hl:LAt h stepc 2 s.d.xs (.slice sa s.d.xs.length cp)) (hlen:s.d.xs.length≤1048576):WCall Tryz.prog 50 #[(vP t 0),(vI (k)),(Value.agg #[(vS s.d.name),(vI (s.d.rt)),(vI (s.d.dl)),(Value.slice sa (s.d.xs.length) (cp)),(vI (s.st)),(vI (s.ix)),(vB s.cn),(vI (s.tr)),(vI (s.bg)),(vI (s.er))])] h (fun v h1=>v=.int .i64 (addE (plT ms) k)∧Chg O h h1∧∃ O',TbAt 57 h1 O' t (addM (plT ms) k s)∧∀ b,O' b→O b ∨ h.size≤b):=by
 have hT':TbAt 57 h O t (plT ms):=⟨ms,mb,rfl,T⟩
 refine wcall_by fun K hK=>?_
 refine wcall_at { tmps:=#[(vP t 0),(vI k),(vA #[(vS s.d.name),(vI s.d.rt),(vI s.d.dl),(vL sa s.d.xs.length cp),(vI s.st),(vI s.ix),(vB s.cn),(vI s.tr),(vI s.bg),(vI s.er)]),vZ,vZ,vZ,vZ,vZ,vZ,vZ,vZ,vZ,vZ,vZ,vZ,vZ,vZ,vZ,vZ,vZ,vZ,vZ,vZ,vZ,vZ,vZ,vZ,vZ,vZ,vZ,vZ,vZ],defers:=[] } (by kernel_rfl) ?_
 obtain ⟨b1,eb2⟩:∃ zq,zq=h.size:=⟨_,rfl⟩
 obtain ⟨h3,e4⟩:∃ zq,zq=h.push (.cells #[(vS s.d.name),(vI (s.d.rt)),(vI (s.d.dl)),(Value.slice sa (s.d.xs.length) (cp)),(vI (s.st)),(vI (s.ix)),(vB s.cn),(vI (s.tr)),(vI (s.bg)),(vI (s.er))] 38 (0,0)):=⟨_,rfl⟩
 have f5:=push_new e4
 rw [← eb2] at f5
 have x6:Ext h h3:=by rw [e4]; exact Ext.push _ _
 have o7:h.size≤b1:=by have:=(Ext.refl h).size; omega
 have x8:=(Ext.refl h).trans x6
 rcases hq9:findK ms (k) with _ | cc10
 ·obtain ⟨b11,eb12⟩:∃ zq,zq=h3.size:=⟨_,rfl⟩
  obtain ⟨h13,e14⟩:∃ zq,zq=h3.push (.cells #[(vS .empty),(vI 0),(vI 0),(Value.slice none 0 0),(vI 0),(vI 0),(vB false),(vI 0),(vI 0),(vI 0)] 38 (0,0)):=⟨_,rfl⟩
  have f15:=push_new e14
  rw [← eb12] at f15
  have n16:b11 ≠ b1:=by have:=row_lt f5; omega
  have x17:Ext h3 h13:=by rw [e14]; exact Ext.push _ _
  have o18:h.size≤b11:=by have:=x8.size; omega
  have f19:=x17 _ _ f5
  have x20:=x8.trans x17
  obtain ⟨h21,e22⟩:∃ zq,zq=h13.setIfInBounds b11 (.cells #[(vS .empty),(vI 0),(vI 0),(Value.slice none 0 0),(vI 0),(vI 0),(vB false),(vI 0),(vI 0),(vI 0)] 38 (0,0)):=⟨_,rfl⟩
  have f23:=set_other e22 f19 n16
  have x24:=Ext.setNew x20 e22 o18
  by_cases c25:(64:Int)≤((ms.length:Nat))
  ·refine wc_ev [evA 0 0 eb2 e4,evC 1 3 0 agg55 (x8 _ _ T.row),evV 1 5 (vT #[(vA #[(vS .empty),(vI 0),(vI 0),(vL none 0 0),(vI 0),(vI 0),(vB false),(vI 0),(vI 0),(vI 0)]),(vB false)]) (show lookupA Tryz.prog h3 55 (Value.map (some mb)) (vI k) true=some (vT #[(vA #[(vS .empty),(vI 0),(vI 0),(vL none 0 0),(vI 0),(vI 0),(vB false),(vI 0),(vI 0),(vI 0)]),(vB false)]) from (T.map.keep fun b r _ q=>x8 b r q).lookup_none mapty zero38 hq9 true),evA 1 9 eb12 e14,evUw 1 10 size38 f15 e22,evC 4 3 0 agg55 (x24 _ _ T.row),evV 4 4 (vI ((ms.length:Nat))) (show lenA Tryz.prog h21 55 (Value.map (some mb))=some (vI ((ms.length:Nat))) from (T.map.keep fun b r _ q=>x24 b r q).len_eq mapty),geT 4 5 3 c25] .ret h21 [(5,(vP b1 0)),(6,(vI 0)),(10,(vP t 0)),(11,(vP t 0)),(12,(vP t 0)),(13,(Value.map (some mb))),(14,(vI k)),(15,(vT #[(vA #[(vS .empty),(vI 0),(vI 0),(vL none 0 0),(vI 0),(vI 0),(vB false),(vI 0),(vI 0),(vI 0)]),(vB false)])),(9,(vT #[(vA #[(vS .empty),(vI 0),(vI 0),(vL none 0 0),(vI 0),(vI 0),(vB false),(vI 0),(vI 0),(vI 0)]),(vB false)])),(16,(vA #[(vS .empty),(vI 0),(vI 0),(vL none 0 0),(vI 0),(vI 0),(vB false),(vI 0),(vI 0),(vI 0)])),(17,(vB false)),(7,(vP b11 0)),(8,(vB false)),(18,(vB false)),(19,(vP t 0)),(20,(vP t 0)),(21,(vP t 0)),(22,(Value.map (some mb))),(23,(vI ((ms.length:Nat)))),(24,(vB true)),(6,(vI 4))] ?_
   have lp:=plT_len ms
   have ee:addE (plT ms) k=4:=by rw [addE_none (plT_no hq9),if_pos (by omega)]
   exact end_ev [] (vI 4) (hK _ _ (⟨by rw [ee],Chg.ext x24,O,by unfold addM; rw [ee,if_neg (by decide)]; exact hT'.keep fun b r _ q=>x24 b r q,fun b hb=>.inl hb⟩))
  ·obtain ⟨_,h26,s27,w28,c29,rfl,o30,x31,b32⟩:=copys_ok h21 s _ _ (hl.keep fun b r _ q=>x24 b r q) (by omega)
   have x33:=x24.trans x31
   have z34:h.size≤h21.size:=x24.size
   have n35:∀ zz,blk (Value.slice w28 (s.d.xs.length) (c29)) zz→¬ (fun q=>q=mb) zz:=fun zz hz ez=>by have:=b32 zz hz; have:=(T.map.keep fun b r _ q=>x24 b r q).blk_lt ez; omega
   have o36:∀ zz,blk (Value.slice w28 (s.d.xs.length) (c29)) zz→h.size≤zz:=fun zz hz=>by have:=b32 zz hz; omega
   obtain ⟨h37,e38,p39,c40,z41⟩:=(T.map.keep fun b r _ q=>x33 b r q).update_new mapty hq9 (s,w28,c29)
   have z42:h.size≤h26.size:=(Chg.ext (O:=O) x33).size
   have x43:=(Chg.ext (O:=O) x33).then c40 (fun b hb=>.inl ((fun b hb=>(T.foot b).2 (.inr (.inl hb))) b hb))
   have f44:=c40.same _ _ (x33 _ _ T.row) (fun hb=>(T.map.keep fun b r _ q=>x33 b r q).ne (x33 _ _ T.row) (Eq.symm hb))
   have p45:=(T.lists.keep fun b r _ q=>x33 b r q).keep fun b r hb q=>c40.same b r q ((fun b hb hb2=>MapAt.off (T.map.keep fun b r _ q=>x33 b r q) ((T.lists.keep fun b r _ q=>x33 b r q)).celled b hb2 hb) b hb)
   have p46:=o30.keep fun b r hb q=>c40.same b r q (n35 b hb)
   refine wc_ev [evA 0 0 eb2 e4,evC 1 3 0 agg55 (x8 _ _ T.row),evV 1 5 (vT #[(vA #[(vS .empty),(vI 0),(vI 0),(vL none 0 0),(vI 0),(vI 0),(vB false),(vI 0),(vI 0),(vI 0)]),(vB false)]) (show lookupA Tryz.prog h3 55 (Value.map (some mb)) (vI k) true=some (vT #[(vA #[(vS .empty),(vI 0),(vI 0),(vL none 0 0),(vI 0),(vI 0),(vB false),(vI 0),(vI 0),(vI 0)]),(vB false)]) from (T.map.keep fun b r _ q=>x8 b r q).lookup_none mapty zero38 hq9 true),evA 1 9 eb12 e14,evUw 1 10 size38 f15 e22,evC 4 3 0 agg55 (x24 _ _ T.row),evV 4 4 (vI ((ms.length:Nat))) (show lenA Tryz.prog h21 55 (Value.map (some mb))=some (vI ((ms.length:Nat))) from (T.map.keep fun b r _ q=>x24 b r q).len_eq mapty),geF 4 5 3 c25,evC 6 3 0 agg55 (x24 _ _ T.row),evLw 6 5 agg38 size38 f23,evF 6 6 s27,evC 99 0 0 agg55 (x33 _ _ T.row),evH 6 7 undef h37 (show (mapUpdateA Tryz.prog h26 55 (Value.map (some mb)) (vI k) (vA #[(vS s.d.name),(vI s.d.rt),(vI s.d.dl),(vL w28 s.d.xs.length c29),(vI s.st),(vI s.ix),(vB s.cn),(vI s.tr),(vI s.bg),(vI s.er)])=some h37∧(undef:Value)=undef) from ⟨e38,rfl⟩)] .ret h37 [(5,(vP b1 0)),(6,(vI 0)),(10,(vP t 0)),(11,(vP t 0)),(12,(vP t 0)),(13,(Value.map (some mb))),(14,(vI k)),(15,(vT #[(vA #[(vS .empty),(vI 0),(vI 0),(vL none 0 0),(vI 0),(vI 0),(vB false),(vI 0),(vI 0),(vI 0)]),(vB false)])),(9,(vT #[(vA #[(vS .empty),(vI 0),(vI 0),(vL none 0 0),(vI 0),(vI 0),(vB false),(vI 0),(vI 0),(vI 0)]),(vB false)])),(16,(vA #[(vS .empty),(vI 0),(vI 0),(vL none 0 0),(vI 0),(vI 0),(vB false),(vI 0),(vI 0),(vI 0)])),(17,(vB false)),(7,(vP b11 0)),(8,(vB false)),(18,(vB false)),(19,(vP t 0)),(20,(vP t 0)),(21,(vP t 0)),(22,(Value.map (some mb))),(23,(vI ((ms.length:Nat)))),(24,(vB false)),(25,(vP t 0)),(26,(vP t 0)),(27,(vP t 0)),(28,(Value.map (some mb))),(29,(vI k)),(30,(vA #[(vS s.d.name),(vI s.d.rt),(vI s.d.dl),(vL sa s.d.xs.length cp),(vI s.st),(vI s.ix),(vB s.cn),(vI s.tr),(vI s.bg),(vI s.er)])),(31,(vA #[(vS s.d.name),(vI s.d.rt),(vI s.d.dl),(vL w28 s.d.xs.length c29),(vI s.st),(vI s.ix),(vB s.cn),(vI s.tr),(vI s.bg),(vI s.er)])),(6,(vI 0))] ?_
   have lp:=plT_len ms
   have ee:addE (plT ms) k=0:=by rw [addE_none (plT_no hq9),if_neg (by omega)]
   obtain ⟨O9,t9,o9⟩:=tb_ins T (j:=k) (y:=(s,w28,c29)) f44 p39 p45 p46 (fun b hb=>.inr (o36 b hb))
   exact end_ev [] (vI 0) (hK _ _ (⟨by rw [ee],x43,O9,by unfold addM; rw [ee,if_pos rfl]; exact t9,o9⟩))
 ·obtain ⟨khq47,ihq48⟩:=ok.at (plT_some hq9)
  obtain ⟨zhq3785d,_,_⟩:=chkS_zero khq47
  have:=defB_of zhq3785d
  obtain ⟨b49,eb50⟩:∃ zq,zq=h3.size:=⟨_,rfl⟩
  obtain ⟨h51,e52⟩:∃ zq,zq=h3.push (.cells #[(vS .empty),(vI 0),(vI 0),(Value.slice none 0 0),(vI 0),(vI 0),(vB false),(vI 0),(vI 0),(vI 0)] 38 (0,0)):=⟨_,rfl⟩
  have f53:=push_new e52
  rw [← eb50] at f53
  have x54:Ext h3 h51:=by rw [e52]; exact Ext.push _ _
  have o55:h.size≤b49:=by have:=x8.size; omega
  have x56:=x8.trans x54
  obtain ⟨h57,e58⟩:∃ zq,zq=h51.setIfInBounds b49 (.cells #[(vS cc10.1.d.name),(vI (cc10.1.d.rt)),(vI (cc10.1.d.dl)),(Value.slice cc10.2.1 (cc10.1.d.xs.length) (cc10.2.2)),(vI (cc10.1.st)),(vI (cc10.1.ix)),(vB cc10.1.cn),(vI (cc10.1.tr)),(vI (cc10.1.bg)),(vI (cc10.1.er))] 38 (0,0)):=⟨_,rfl⟩
  have x59:=Ext.setNew x56 e58 o55
  refine wc_ev [evA 0 0 eb2 e4,evC 1 3 0 agg55 (x8 _ _ T.row),evV 1 5 (vT #[(vA #[(vS cc10.1.d.name),(vI cc10.1.d.rt),(vI cc10.1.d.dl),(vL cc10.2.1 cc10.1.d.xs.length cc10.2.2),(vI cc10.1.st),(vI cc10.1.ix),(vB cc10.1.cn),(vI cc10.1.tr),(vI cc10.1.bg),(vI cc10.1.er)]),(vB true)]) (show lookupA Tryz.prog h3 55 (Value.map (some mb)) (vI k) true=some (vT #[(vA #[(vS cc10.1.d.name),(vI cc10.1.d.rt),(vI cc10.1.d.dl),(vL cc10.2.1 cc10.1.d.xs.length cc10.2.2),(vI cc10.1.st),(vI cc10.1.ix),(vB cc10.1.cn),(vI cc10.1.tr),(vI cc10.1.bg),(vI cc10.1.er)]),(vB true)]) from (T.map.keep fun b r _ q=>x8 b r q).lookup_some mapty hq9 true),evA 1 9 eb50 e52,evUw 1 10 size38 f53 e58] .ret h57 [(5,(vP b1 0)),(6,(vI 0)),(10,(vP t 0)),(11,(vP t 0)),(12,(vP t 0)),(13,(Value.map (some mb))),(14,(vI k)),(15,(vT #[(vA #[(vS cc10.1.d.name),(vI cc10.1.d.rt),(vI cc10.1.d.dl),(vL cc10.2.1 cc10.1.d.xs.length cc10.2.2),(vI cc10.1.st),(vI cc10.1.ix),(vB cc10.1.cn),(vI cc10.1.tr),(vI cc10.1.bg),(vI cc10.1.er)]),(vB true)])),(9,(vT #[(vA #[(vS cc10.1.d.name),(vI cc10.1.d.rt),(vI cc10.1.d.dl),(vL cc10.2.1 cc10.1.d.xs.length cc10.2.2),(vI cc10.1.st),(vI cc10.1.ix),(vB cc10.1.cn),(vI cc10.1.tr),(vI cc10.1.bg),(vI cc10.1.er)]),(vB true)])),(16,(vA #[(vS cc10.1.d.name),(vI cc10.1.d.rt),(vI cc10.1.d.dl),(vL cc10.2.1 cc10.1.d.xs.length cc10.2.2),(vI cc10.1.st),(vI cc10.1.ix),(vB cc10.1.cn),(vI cc10.1.tr),(vI cc10.1.bg),(vI cc10.1.er)])),(17,(vB true)),(7,(vP b49 0)),(8,(vB true)),(18,(vB true)),(6,(vI 6))] ?_
  have lp:=plT_len ms
  have ee:addE (plT ms) k=6:=addE_some (plT_some hq9)
  exact end_ev [] (vI 6) (hK _ _ (⟨by rw [ee],Chg.ext x59,O,by unfold addM; rw [ee,if_neg (by decide)]; exact hT'.keep fun b r _ q=>x59 b r q,fun b hb=>.inl hb⟩))
set_option maxHeartbeats 4000000 in
theorem put_ok_r (h:Heap) {O:Nat→Prop} {t mb:Nat} {ms:TabS} (T:TbRow 57 h O t ms mb) (ok:WfT (plT ms)) (k:Int) (s:SagaM) (sa:Option Addr) (cp:Nat) (hl:LAt h stepc 2 s.d.xs (.slice sa s.d.xs.length cp)) (hlen:s.d.xs.length≤1048576):WCall Tryz.prog 21 #[(vP t 0),(vI (k)),(Value.agg #[(vS s.d.name),(vI (s.d.rt)),(vI (s.d.dl)),(Value.slice sa (s.d.xs.length) (cp)),(vI (s.st)),(vI (s.ix)),(vB s.cn),(vI (s.tr)),(vI (s.bg)),(vI (s.er))])] h (fun v h1=>v=.int .i64 (putE (plT ms) k s)∧Chg O h h1∧∃ O',TbAt 57 h1 O' t (putM (plT ms) k s)∧∀ b,O' b→O b ∨ h.size≤b):=by
 have hT':TbAt 57 h O t (plT ms):=⟨ms,mb,rfl,T⟩
 refine wcall_by fun K hK=>?_
 refine wcall_at { tmps:=#[(vP t 0),(vI k),(vA #[(vS s.d.name),(vI s.d.rt),(vI s.d.dl),(vL sa s.d.xs.length cp),(vI s.st),(vI s.ix),(vB s.cn),(vI s.tr),(vI s.bg),(vI s.er)]),vZ,vZ,vZ,vZ,vZ,vZ,vZ,vZ,vZ,vZ,vZ,vZ,vZ,vZ,vZ,vZ,vZ,vZ,vZ,vZ,vZ,vZ],defers:=[] } (by kernel_rfl) ?_
 obtain ⟨b1,eb2⟩:∃ zq,zq=h.size:=⟨_,rfl⟩
 obtain ⟨h3,e4⟩:∃ zq,zq=h.push (.cells #[(vS s.d.name),(vI (s.d.rt)),(vI (s.d.dl)),(Value.slice sa (s.d.xs.length) (cp)),(vI (s.st)),(vI (s.ix)),(vB s.cn),(vI (s.tr)),(vI (s.bg)),(vI (s.er))] 38 (0,0)):=⟨_,rfl⟩
 have f5:=push_new e4
 rw [← eb2] at f5
 have x6:Ext h h3:=by rw [e4]; exact Ext.push _ _
 have o7:h.size≤b1:=by have:=(Ext.refl h).size; omega
 have x8:=(Ext.refl h).trans x6
 obtain ⟨_,_,sn9,rfl,rfl⟩:=made_ok h3 (x8 _ _ T.row)
 obtain ⟨_,h10,s11,rfl,x12⟩:=isid_ok h3 (k)
 have f13:=x12 _ _ f5
 have x14:=x8.trans x12
 by_cases c15:(1:Int)≤(k)∧((k):Int)≤9999
 ·obtain ⟨_,h16,s17,rfl,x18⟩:=scheck_ok h10 s _ _ (hl.keep fun b r _ q=>x14 b r q) (by omega)
  have f19:=x18 _ _ f13
  have x20:=x14.trans x18
  by_cases c21:((chkS s):Int)=0
  ·obtain ⟨z3889d,z3889b,z3889o⟩:=chkS_zero c21
   have:=defB_of z3889d
   have:=budB_of z3889b
   have z3889i:=okI_of z3889o
   have:=z3889i.1
   obtain ⟨_,h22,s23,rfl,x24,O3893,p25,o26⟩:=add_ok_r h16 (T.keep fun b r _ q=>x20 b r q) ok (k) s _ _ (hl.keep fun b r _ q=>x20 b r q) (by omega)
   refine wc_ev [evA 0 0 eb2 e4,evF 1 1 sn9,evFt 3 1 c15 s11,evLw 5 0 agg38 size38 f13,evFi 5 1 c21 s17,evLw 8 2 agg38 size38 f19,evF 8 3 s23] .ret h22 [(5,(vP b1 0)),(6,(vI 0)),(9,(vP t 0)),(10,(vI 0)),(11,(vB false)),(8,(vB false)),(13,(vI k)),(14,(vB true)),(15,(vB false)),(12,(vB false)),(16,(vA #[(vS s.d.name),(vI s.d.rt),(vI s.d.dl),(vL sa s.d.xs.length cp),(vI s.st),(vI s.ix),(vB s.cn),(vI s.tr),(vI s.bg),(vI s.er)])),(17,(vI 0)),(7,(vI 0)),(18,(vI 0)),(19,(vB false)),(21,(vP t 0)),(22,(vI k)),(23,(vA #[(vS s.d.name),(vI s.d.rt),(vI s.d.dl),(vL sa s.d.xs.length cp),(vI s.st),(vI s.ix),(vB s.cn),(vI s.tr),(vI s.bg),(vI s.er)])),(24,(vI (addE (plT ms) (k)))),(6,(vI (addE (plT ms) (k))))] ?_
   have ee:putE (plT ms) k s=addE (plT ms) k:=by unfold putE; rw [if_pos (by omega),if_pos c21]
   exact end_ev [] (vI (addE (plT ms) (k))) (hK _ _ (⟨by rw [ee],((Chg.ext (O:=O) x20).trans x24),O3893,by unfold putM; rw [ee]; exact p25,fun b hb=>(o26 b hb).imp id fun w=>by have:=(x20).size; omega⟩))
  ·refine wc_ev [evA 0 0 eb2 e4,evF 1 1 sn9,evFt 3 1 c15 s11,evLw 5 0 agg38 size38 f13,evF 5 1 s17,neT 6 1 34 c21] .ret h16 [(5,(vP b1 0)),(6,(vI 0)),(9,(vP t 0)),(10,(vI 0)),(11,(vB false)),(8,(vB false)),(13,(vI k)),(14,(vB true)),(15,(vB false)),(12,(vB false)),(16,(vA #[(vS s.d.name),(vI s.d.rt),(vI s.d.dl),(vL sa s.d.xs.length cp),(vI s.st),(vI s.ix),(vB s.cn),(vI s.tr),(vI s.bg),(vI s.er)])),(17,(vI (chkS s))),(7,(vI (chkS s))),(18,(vI (chkS s))),(19,(vB true)),(20,(vI (chkS s))),(6,(vI (chkS s)))] ?_
   have ee:putE (plT ms) k s=chkS s:=by unfold putE; rw [if_pos (by omega),if_neg c21]
   exact end_ev [] (vI (chkS s)) (hK _ _ (⟨by rw [ee],Chg.ext x20,O,by unfold putM; rw [ee,if_neg c21]; exact hT'.keep fun b r _ q=>x20 b r q,fun b hb=>.inl hb⟩))
 ·refine wc_ev [evA 0 0 eb2 e4,evF 1 1 sn9,evFf 3 1 c15 s11] .ret h10 [(5,(vP b1 0)),(6,(vI 0)),(9,(vP t 0)),(10,(vI 0)),(11,(vB false)),(8,(vB false)),(13,(vI k)),(14,(vB false)),(15,(vB true)),(12,(vB true)),(6,(vI 2))] ?_
  have ee:putE (plT ms) k s=2:=by unfold putE; rw [if_neg (by omega)]
  exact end_ev [] (vI 2) (hK _ _ (⟨by rw [ee],Chg.ext x14,O,by unfold putM; rw [ee,if_neg (by decide)]; exact hT'.keep fun b r _ q=>x14 b r q,fun b hb=>.inl hb⟩))
theorem put_ok (h:Heap) {O:Nat→Prop} {t:Nat} {m:Tab} (hT:TbAt 57 h O t m) (ok:WfT m) (k:Int) (s:SagaM) (sa:Option Addr) (cp:Nat) (hl:LAt h stepc 2 s.d.xs (.slice sa s.d.xs.length cp)) (hlen:s.d.xs.length≤1048576):WCall Tryz.prog 21 #[(vP t 0),(vI (k)),(Value.agg #[(vS s.d.name),(vI (s.d.rt)),(vI (s.d.dl)),(Value.slice sa (s.d.xs.length) (cp)),(vI (s.st)),(vI (s.ix)),(vB s.cn),(vI (s.tr)),(vI (s.bg)),(vI (s.er))])] h (fun v h1=>v=.int .i64 (putE m k s)∧Chg O h h1∧∃ O',TbAt 57 h1 O' t (putM m k s)∧∀ b,O' b→O b ∨ h.size≤b):=by
 obtain ⟨ms,mb,rfl,T⟩:=hT
 exact put_ok_r h T ok k s sa cp hl hlen
set_option maxHeartbeats 4000000 in
theorem tstart_ok_r (h:Heap) {O:Nat→Prop} {t mb:Nat} {ms:TabS} (T:TbRow 57 h O t ms mb) (ok:WfT (plT ms)) (k:Int) (d:DefM) (sa:Option Addr) (cp:Nat) (hl:LAt h stepc 2 d.xs (.slice sa d.xs.length cp)) (hlen:d.xs.length≤1048576) (n:Int):WCall Tryz.prog 14 #[(vP t 0),(vI (k)),(Value.agg #[(vS d.name),(vI (d.rt)),(vI (d.dl)),(Value.slice sa (d.xs.length) (cp))]),(vI (n))] h (fun v h1=>v=.int .i64 (startE (plT ms) k d n)∧Chg O h h1∧∃ O',TbAt 57 h1 O' t (startM (plT ms) k d n)∧∀ b,O' b→O b ∨ h.size≤b):=by
 have hT':TbAt 57 h O t (plT ms):=⟨ms,mb,rfl,T⟩
 refine wcall_by fun K hK=>?_
 refine wcall_at { tmps:=#[(vP t 0),(vI k),(vA #[(vS d.name),(vI d.rt),(vI d.dl),(vL sa d.xs.length cp)]),(vI n),vZ,vZ,vZ,vZ,vZ,vZ,vZ,vZ,vZ,vZ,vZ,vZ,vZ,vZ,vZ,vZ,vZ,vZ,vZ,vZ,vZ,vZ,vZ,vZ,vZ,vZ,vZ,vZ,vZ,vZ,vZ,vZ,vZ,vZ,vZ,vZ,vZ,vZ,vZ,vZ],defers:=[] } (by kernel_rfl) ?_
 obtain ⟨b1,eb2⟩:∃ zq,zq=h.size:=⟨_,rfl⟩
 obtain ⟨h3,e4⟩:∃ zq,zq=h.push (.cells #[(vS d.name),(vI (d.rt)),(vI (d.dl)),(Value.slice sa (d.xs.length) (cp))] 31 (0,0)):=⟨_,rfl⟩
 have f5:=push_new e4
 rw [← eb2] at f5
 have x6:Ext h h3:=by rw [e4]; exact Ext.push _ _
 have o7:h.size≤b1:=by have:=(Ext.refl h).size; omega
 have x8:=(Ext.refl h).trans x6
 obtain ⟨_,_,sn9,rfl,rfl⟩:=made_ok h3 (x8 _ _ T.row)
 obtain ⟨_,h10,s11,rfl,x12⟩:=isid_ok h3 (k)
 have f13:=x12 _ _ f5
 have x14:=x8.trans x12
 by_cases c15:(1:Int)≤(k)∧((k):Int)≤9999
 ·by_cases c16:((n):Int) < 0
  ·refine wc_ev [evA 0 0 eb2 e4,evF 1 1 sn9,evFt 3 1 c15 s11,ltT 3 5 3 c16] .ret h10 [(6,(vP b1 0)),(8,(vI 0)),(12,(vP t 0)),(13,(vI 0)),(14,(vB false)),(11,(vB false)),(16,(vI k)),(17,(vB true)),(18,(vB false)),(19,(vB false)),(20,(vI n)),(21,(vB true)),(22,(vB true)),(23,(vB true)),(24,vZ),(25,vZ),(26,(vB true)),(15,(vB true)),(8,(vI 2))] ?_
   have ee:startE (plT ms) k d n=2:=by unfold startE; rw [if_neg (by omega)]
   exact end_ev [] (vI 2) (hK _ _ (⟨by rw [ee],Chg.ext x14,O,by unfold startM; rw [ee,if_neg (by decide)]; exact hT'.keep fun b r _ q=>x14 b r q,fun b hb=>.inl hb⟩))
  ·by_cases c17:(2147483648:Int) < (n)
   ·refine wc_ev [evA 0 0 eb2 e4,evF 1 1 sn9,evFt 3 1 c15 s11,ltF 3 5 3 c16,gtT 3 9 3 c17] .ret h10 [(6,(vP b1 0)),(8,(vI 0)),(12,(vP t 0)),(13,(vI 0)),(14,(vB false)),(11,(vB false)),(16,(vI k)),(17,(vB true)),(18,(vB false)),(19,(vB false)),(20,(vI n)),(21,(vB false)),(22,(vB false)),(23,(vB false)),(24,(vI n)),(25,(vB true)),(26,(vB true)),(15,(vB true)),(8,(vI 2))] ?_
    have ee:startE (plT ms) k d n=2:=by unfold startE; rw [if_neg (by omega)]
    exact end_ev [] (vI 2) (hK _ _ (⟨by rw [ee],Chg.ext x14,O,by unfold startM; rw [ee,if_neg (by decide)]; exact hT'.keep fun b r _ q=>x14 b r q,fun b hb=>.inl hb⟩))
   ·obtain ⟨_,hh18,sn19,rfl,x20⟩:=dcheck_ok h10 d _ _ (hl.keep fun b r _ q=>x14 b r q) (by omega)
    have f21:=x20 _ _ f13
    have x22:=x14.trans x20
    by_cases c23:((if defB d=true then 0 else 15):Int)=0
    ·obtain ⟨v24,h25,s26,p27,p28,x29⟩:=sstart_ok hh18 d _ _ (hl.keep fun b r _ q=>x22 b r q) (by omega) (n)
     have x30:=x22.trans x29
     by_cases c31:((staE d (n)):Int)=0
     ·obtain ⟨w32,c33,p34,o35,n36⟩:=p28 c31
      obtain ⟨s37,e38⟩:∃ q,q=staS d (n):=⟨_,rfl⟩
      have e39:s37.d=d:=by rw [e38]; rfl
      have e40:s37.d.xs.length=(d).xs.length:=by rw [e39]
      rw [← e38,← e39] at p34
      rw [← e39] at o35 n36
      have c41:chkS s37=0:=by rw [e38]; exact sta_ok c31
      have z42:h.size≤hh18.size:=x22.size
      have o43:∀ zz,blk (Value.slice w32 (s37.d.xs.length) (c33)) zz→h.size≤zz:=fun zz hz=>by have:=n36 zz hz; omega
      obtain ⟨b44,eb45⟩:∃ zq,zq=h25.size:=⟨_,rfl⟩
      obtain ⟨h46,e47⟩:∃ zq,zq=h25.push (.cells #[(vS .empty),(vI 0),(vI 0),(Value.slice none 0 0),(vI 0),(vI 0),(vB false),(vI 0),(vI 0),(vI 0)] 38 (0,0)):=⟨_,rfl⟩
      have f48:=push_new e47
      rw [← eb45] at f48
      have n49:∀ zz,(blk (Value.slice w32 (s37.d.xs.length) (c33))) zz→¬ zz=b44:=fun zz hz ez=>by have:=o35.blk_lt hz; omega
      have x50:Ext h25 h46:=by rw [e47]; exact Ext.push _ _
      have o51:h.size≤b44:=by have:=x30.size; omega
      have p52:=o35.keep fun b r _ q=>x50 b r q
      have x53:=x30.trans x50
      obtain ⟨h54,e55⟩:∃ zq,zq=h46.setIfInBounds b44 (.cells #[(vS s37.d.name),(vI (s37.d.rt)),(vI (s37.d.dl)),(Value.slice w32 (s37.d.xs.length) (c33)),(vI (s37.st)),(vI (s37.ix)),(vB s37.cn),(vI (s37.tr)),(vI (s37.bg)),(vI (s37.er))] 38 (0,0)):=⟨_,rfl⟩
      have f56:=set_same e55 f48
      have p57:=p52.keep fun b r hb q=>(Chg.set e55).same b r q (n49 b hb)
      have x58:=Ext.setNew x53 e55 o51
      obtain ⟨_,h59,s60,rfl,x61,O3978,p62,o63⟩:=add_ok_r h54 (T.keep fun b r _ q=>x58 b r q) ok (k) s37 _ _ (OwnAt.lat p57 stepc_size (tsz_of size67)) (by omega)
      refine wc_ev [evA 0 0 eb2 e4,evF 1 1 sn9,evFt 3 1 c15 s11,ltF 3 5 3 c16,gtF 3 9 3 c17,evLw 5 0 agg31 size31 f13,evF 5 1 sn19,neF 5 2 34 c23,evLw 7 0 agg31 size31 f21,evFe 7 2 p34 s26,evA 7 6 eb45 e47,evUw 7 7 size38 f48 e55,evLw 10 2 agg38 size38 f56,evF 10 3 s60] .ret h59 [(6,(vP b1 0)),(8,(vI 0)),(12,(vP t 0)),(13,(vI 0)),(14,(vB false)),(11,(vB false)),(16,(vI k)),(17,(vB true)),(18,(vB false)),(19,(vB false)),(20,(vI n)),(21,(vB false)),(22,(vB false)),(23,(vB false)),(24,(vI n)),(25,(vB false)),(26,(vB false)),(15,(vB false)),(28,(vA #[(vS d.name),(vI d.rt),(vI d.dl),(vL sa d.xs.length cp)])),(29,(vI (if defB d=true then 0 else 15))),(30,(vB false)),(27,(vB false)),(32,(vA #[(vS d.name),(vI d.rt),(vI d.dl),(vL sa d.xs.length cp)])),(33,(vI n)),(34,(vT #[(vA #[(vS s37.d.name),(vI s37.d.rt),(vI s37.d.dl),(vL w32 s37.d.xs.length c33),(vI s37.st),(vI s37.ix),(vB s37.cn),(vI s37.tr),(vI s37.bg),(vI s37.er)]),(vI 0)])),(31,(vT #[(vA #[(vS s37.d.name),(vI s37.d.rt),(vI s37.d.dl),(vL w32 s37.d.xs.length c33),(vI s37.st),(vI s37.ix),(vB s37.cn),(vI s37.tr),(vI s37.bg),(vI s37.er)]),(vI 0)])),(35,(vA #[(vS s37.d.name),(vI s37.d.rt),(vI s37.d.dl),(vL w32 s37.d.xs.length c33),(vI s37.st),(vI s37.ix),(vB s37.cn),(vI s37.tr),(vI s37.bg),(vI s37.er)])),(36,(vI 0)),(9,(vP b44 0)),(10,(vI 0)),(37,(vI 0)),(38,(vB false)),(40,(vP t 0)),(41,(vI k)),(42,(vA #[(vS s37.d.name),(vI s37.d.rt),(vI s37.d.dl),(vL w32 s37.d.xs.length c33),(vI s37.st),(vI s37.ix),(vB s37.cn),(vI s37.tr),(vI s37.bg),(vI s37.er)])),(43,(vI (addE (plT ms) (k)))),(8,(vI (addE (plT ms) (k))))] ?_
      have ee:startE (plT ms) k d n=addE (plT ms) k:=by unfold startE; rw [if_pos (by omega),if_pos (ifz (by decide) c23)]
      exact end_ev [] (vI (addE (plT ms) (k))) (hK _ _ (⟨by rw [ee],((Chg.ext (O:=O) x58).trans x61),O3978,by have q9:=p62; rw [e38] at q9; unfold startM; rw [ee]; exact q9,fun b hb=>(o63 b hb).imp id fun w=>by have:=(x58).size; omega⟩))
     ·obtain ⟨b64,eb65⟩:∃ zq,zq=h25.size:=⟨_,rfl⟩
      obtain ⟨h66,e67⟩:∃ zq,zq=h25.push (.cells #[(vS .empty),(vI 0),(vI 0),(Value.slice none 0 0),(vI 0),(vI 0),(vB false),(vI 0),(vI 0),(vI 0)] 38 (0,0)):=⟨_,rfl⟩
      have f68:=push_new e67
      rw [← eb65] at f68
      have o69:h.size≤b64:=by have:=x30.size; omega
      obtain ⟨h70,e71⟩:∃ zq,zq=h66.setIfInBounds b64 (.cells #[(vS .empty),(vI 0),(vI 0),(Value.slice none 0 0),(vI 0),(vI 0),(vB false),(vI 0),(vI 0),(vI 0)] 38 (0,0)):=⟨_,rfl⟩
      refine wc_ev [evA 0 0 eb2 e4,evF 1 1 sn9,evFt 3 1 c15 s11,ltF 3 5 3 c16,gtF 3 9 3 c17,evLw 5 0 agg31 size31 f13,evF 5 1 sn19,neF 5 2 34 c23,evLw 7 0 agg31 size31 f21,evFe 7 2 (p27 c31) s26,evA 7 6 eb65 e67,evUw 7 7 size38 f68 e71,neT 8 1 34 c31] .ret h70 [(6,(vP b1 0)),(8,(vI 0)),(12,(vP t 0)),(13,(vI 0)),(14,(vB false)),(11,(vB false)),(16,(vI k)),(17,(vB true)),(18,(vB false)),(19,(vB false)),(20,(vI n)),(21,(vB false)),(22,(vB false)),(23,(vB false)),(24,(vI n)),(25,(vB false)),(26,(vB false)),(15,(vB false)),(28,(vA #[(vS d.name),(vI d.rt),(vI d.dl),(vL sa d.xs.length cp)])),(29,(vI (if defB d=true then 0 else 15))),(30,(vB false)),(27,(vB false)),(32,(vA #[(vS d.name),(vI d.rt),(vI d.dl),(vL sa d.xs.length cp)])),(33,(vI n)),(34,(vT #[(vA #[(vS .empty),(vI 0),(vI 0),(vL none 0 0),(vI 0),(vI 0),(vB false),(vI 0),(vI 0),(vI 0)]),(vI (staE d (n)))])),(31,(vT #[(vA #[(vS .empty),(vI 0),(vI 0),(vL none 0 0),(vI 0),(vI 0),(vB false),(vI 0),(vI 0),(vI 0)]),(vI (staE d (n)))])),(35,(vA #[(vS .empty),(vI 0),(vI 0),(vL none 0 0),(vI 0),(vI 0),(vB false),(vI 0),(vI 0),(vI 0)])),(36,(vI (staE d (n)))),(9,(vP b64 0)),(10,(vI (staE d (n)))),(37,(vI (staE d (n)))),(38,(vB true)),(39,(vI (staE d (n)))),(8,(vI (staE d (n))))] ?_
      exfalso
      exact c31 (by unfold staE; rw [if_pos (ifz (by decide) c23),if_pos (by omega)])
    ·refine wc_ev [evA 0 0 eb2 e4,evF 1 1 sn9,evFt 3 1 c15 s11,ltF 3 5 3 c16,gtF 3 9 3 c17,evLw 5 0 agg31 size31 f13,evF 5 1 sn19,neT 5 2 34 c23] .ret hh18 [(6,(vP b1 0)),(8,(vI 0)),(12,(vP t 0)),(13,(vI 0)),(14,(vB false)),(11,(vB false)),(16,(vI k)),(17,(vB true)),(18,(vB false)),(19,(vB false)),(20,(vI n)),(21,(vB false)),(22,(vB false)),(23,(vB false)),(24,(vI n)),(25,(vB false)),(26,(vB false)),(15,(vB false)),(28,(vA #[(vS d.name),(vI d.rt),(vI d.dl),(vL sa d.xs.length cp)])),(29,(vI (if defB d=true then 0 else 15))),(30,(vB true)),(27,(vB true)),(8,(vI 15))] ?_
     have ee:startE (plT ms) k d n=15:=by unfold startE; rw [if_pos (by omega),if_neg (fun w=>c23 (by rw [if_pos w]))]
     exact end_ev [] (vI 15) (hK _ _ (⟨by rw [ee],Chg.ext x22,O,by unfold startM; rw [ee,if_neg (by decide)]; exact hT'.keep fun b r _ q=>x22 b r q,fun b hb=>.inl hb⟩))
 ·refine wc_ev [evA 0 0 eb2 e4,evF 1 1 sn9,evFf 3 1 c15 s11] .ret h10 [(6,(vP b1 0)),(8,(vI 0)),(12,(vP t 0)),(13,(vI 0)),(14,(vB false)),(11,(vB false)),(16,(vI k)),(17,(vB false)),(18,(vB true)),(19,(vB true)),(20,vZ),(21,vZ),(22,(vB true)),(23,(vB true)),(24,vZ),(25,vZ),(26,(vB true)),(15,(vB true)),(8,(vI 2))] ?_
  have ee:startE (plT ms) k d n=2:=by unfold startE; rw [if_neg (by omega)]
  exact end_ev [] (vI 2) (hK _ _ (⟨by rw [ee],Chg.ext x14,O,by unfold startM; rw [ee,if_neg (by decide)]; exact hT'.keep fun b r _ q=>x14 b r q,fun b hb=>.inl hb⟩))
theorem tstart_ok (h:Heap) {O:Nat→Prop} {t:Nat} {m:Tab} (hT:TbAt 57 h O t m) (ok:WfT m) (k:Int) (d:DefM) (sa:Option Addr) (cp:Nat) (hl:LAt h stepc 2 d.xs (.slice sa d.xs.length cp)) (hlen:d.xs.length≤1048576) (n:Int):WCall Tryz.prog 14 #[(vP t 0),(vI (k)),(Value.agg #[(vS d.name),(vI (d.rt)),(vI (d.dl)),(Value.slice sa (d.xs.length) (cp))]),(vI (n))] h (fun v h1=>v=.int .i64 (startE m k d n)∧Chg O h h1∧∃ O',TbAt 57 h1 O' t (startM m k d n)∧∀ b,O' b→O b ∨ h.size≤b):=by
 obtain ⟨ms,mb,rfl,T⟩:=hT
 exact tstart_ok_r h T ok k d sa cp hl hlen n
theorem sub_wrap {t:TypeId} {a b:Int}:binA Tryz.prog .sub t (.int .i64 a) (.int .i64 b)=some (.int .i64 (IntKind.i64.wrap (a - b))):=by simp [binA,intBinA]
def chresE (m:Tab) (k e1 e2 e3 res now:Int):Int:=if getE m k=0 then resE (getS m k) e1 e2 e3 res now else 5
def chresM (m:Tab) (k e1 e2 e3 res now:Int):Tab:=if chresE m k e1 e2 e3 res now=0 then setK m k (nxtS (getS m k) res now) else m
set_option maxHeartbeats 4000000 in
theorem chcan_ok_r (h:Heap) {O:Nat→Prop} {t mb:Nat} {ms:TabS} (T:TbRow 57 h O t ms mb) (ok:WfT (plT ms)) (k:Int):WCall Tryz.prog 58 #[(vP t 0),(vI (k)),(Value.func (.func 41) #[] #[])] h (fun v h1=>v=.int .i64 (canTE (plT ms) k)∧Chg O h h1∧∃ O',TbAt 57 h1 O' t (canTM (plT ms) k)∧∀ b,O' b→O b ∨ h.size≤b):=by
 have hT':TbAt 57 h O t (plT ms):=⟨ms,mb,rfl,T⟩
 refine wcall_by fun K hK=>?_
 refine wcall_at { tmps:=#[(vP t 0),(vI k),(Value.func (.func 41) #[] #[]),vZ,vZ,vZ,vZ,vZ,vZ,vZ,vZ,vZ,vZ,vZ,vZ,vZ,vZ,vZ,vZ,vZ,vZ,vZ,vZ,vZ,vZ,vZ,vZ,vZ,vZ,vZ,vZ,vZ,vZ,vZ,vZ,vZ,vZ,vZ,vZ,vZ,vZ,vZ],defers:=[] } (by kernel_rfl) ?_
 obtain ⟨_,_,sn1,rfl,rfl⟩:=made_ok h T.row
 rcases hq2:findK ms (k) with _ | cc3
 ·obtain ⟨b4,eb5⟩:∃ zq,zq=h.size:=⟨_,rfl⟩
  obtain ⟨h6,e7⟩:∃ zq,zq=h.push (.cells #[(vS .empty),(vI 0),(vI 0),(Value.slice none 0 0),(vI 0),(vI 0),(vB false),(vI 0),(vI 0),(vI 0)] 38 (0,0)):=⟨_,rfl⟩
  have f9:=push_new e7
  rw [← eb5] at f9
  have x10:Ext h h6:=by rw [e7]; exact Ext.push _ _
  have o11:h.size≤b4:=by have:=(Ext.refl h).size; omega
  have x12:=(Ext.refl h).trans x10
  obtain ⟨h13,e14⟩:∃ zq,zq=h6.setIfInBounds b4 (.cells #[(vS .empty),(vI 0),(vI 0),(Value.slice none 0 0),(vI 0),(vI 0),(vB false),(vI 0),(vI 0),(vI 0)] 38 (0,0)):=⟨_,rfl⟩
  have x15:=Ext.setNew x12 e14 o11
  refine wc_ev [evF 1 1 sn1,evC 4 3 0 agg55 T.row,evV 4 5 (vT #[(vA #[(vS .empty),(vI 0),(vI 0),(vL none 0 0),(vI 0),(vI 0),(vB false),(vI 0),(vI 0),(vI 0)]),(vB false)]) (show lookupA Tryz.prog h 55 (Value.map (some mb)) (vI k) true=some (vT #[(vA #[(vS .empty),(vI 0),(vI 0),(vL none 0 0),(vI 0),(vI 0),(vB false),(vI 0),(vI 0),(vI 0)]),(vB false)]) from T.map.lookup_none mapty zero38 hq2 true),evA 4 9 eb5 e7,evUw 4 10 size38 f9 e14] .ret h13 [(6,(vI 0)),(11,(vP t 0)),(12,(vI 0)),(7,(vI 0)),(13,(vI 0)),(14,(vB false)),(17,(vP t 0)),(18,(vP t 0)),(19,(vP t 0)),(20,(Value.map (some mb))),(21,(vI k)),(22,(vT #[(vA #[(vS .empty),(vI 0),(vI 0),(vL none 0 0),(vI 0),(vI 0),(vB false),(vI 0),(vI 0),(vI 0)]),(vB false)])),(16,(vT #[(vA #[(vS .empty),(vI 0),(vI 0),(vL none 0 0),(vI 0),(vI 0),(vB false),(vI 0),(vI 0),(vI 0)]),(vB false)])),(23,(vA #[(vS .empty),(vI 0),(vI 0),(vL none 0 0),(vI 0),(vI 0),(vB false),(vI 0),(vI 0),(vI 0)])),(24,(vB false)),(8,(vP b4 0)),(9,(vB false)),(25,(vB false)),(26,(vB true)),(6,(vI 5))] ?_
  have gg:=(getE_none (plT_no hq2)).1
  have ee:canTE (plT ms) k=5:=by unfold canTE; rw [if_neg (by rw [gg]; decide)]
  exact end_ev [] (vI 5) (hK _ _ (⟨by rw [ee],Chg.ext x15,O,by unfold canTM; rw [ee,if_neg (by decide)]; exact hT'.keep fun b r _ q=>x15 b r q,fun b hb=>.inl hb⟩))
 ·obtain ⟨khq16,ihq17⟩:=ok.at (plT_some hq2)
  obtain ⟨zhq4005d,_,_⟩:=chkS_zero khq16
  have:=defB_of zhq4005d
  obtain ⟨b18,eb19⟩:∃ zq,zq=h.size:=⟨_,rfl⟩
  obtain ⟨h20,e21⟩:∃ zq,zq=h.push (.cells #[(vS .empty),(vI 0),(vI 0),(Value.slice none 0 0),(vI 0),(vI 0),(vB false),(vI 0),(vI 0),(vI 0)] 38 (0,0)):=⟨_,rfl⟩
  have f22:=push_new e21
  rw [← eb19] at f22
  have x23:Ext h h20:=by rw [e21]; exact Ext.push _ _
  have o24:h.size≤b18:=by have:=(Ext.refl h).size; omega
  have x25:=(Ext.refl h).trans x23
  obtain ⟨h26,e27⟩:∃ zq,zq=h20.setIfInBounds b18 (.cells #[(vS cc3.1.d.name),(vI (cc3.1.d.rt)),(vI (cc3.1.d.dl)),(Value.slice cc3.2.1 (cc3.1.d.xs.length) (cc3.2.2)),(vI (cc3.1.st)),(vI (cc3.1.ix)),(vB cc3.1.cn),(vI (cc3.1.tr)),(vI (cc3.1.bg)),(vI (cc3.1.er))] 38 (0,0)):=⟨_,rfl⟩
  have f28:=set_same e27 f22
  have x29:=Ext.setNew x25 e27 o24
  obtain ⟨v30,h31,s32,p33,p34,x35⟩:=cancel_ok h26 cc3.1 _ _ ((T.lists.at hq2).keep fun b r _ q=>x29 b r q) (by omega)
  have f36:=x35 _ _ f28
  have x37:=x29.trans x35
  by_cases c38:((canE cc3.1):Int)=0
  ·obtain ⟨w39,c40,p41,o42,n43⟩:=p34 c38
   obtain ⟨s44,e45⟩:∃ q,q=canS cc3.1:=⟨_,rfl⟩
   have e46:s44.d=cc3.1.d:=by rw [e45]; rfl
   have e47:s44.d.xs.length=(cc3.1.d).xs.length:=by rw [e46]
   rw [← e45,← e46] at p41
   rw [← e46] at o42 n43
   have c48:chkS s44=0:=by rw [e45]; exact can_ok c38
   have z49:h.size≤h26.size:=x29.size
   have n50:∀ zz,blk (Value.slice w39 (s44.d.xs.length) (c40)) zz→¬ zz=b18:=fun zz hz ez=>by have:=n43 zz hz; have:=row_lt f28; omega
   have n51:∀ zz,blk (Value.slice w39 (s44.d.xs.length) (c40)) zz→¬ (fun q=>q=mb) zz:=fun zz hz ez=>by have:=n43 zz hz; have:=(T.map.keep fun b r _ q=>x29 b r q).blk_lt ez; omega
   have o52:∀ zz,blk (Value.slice w39 (s44.d.xs.length) (c40)) zz→h.size≤zz:=fun zz hz=>by have:=n43 zz hz; omega
   obtain ⟨h53,e54⟩:∃ zq,zq=h31.setIfInBounds b18 (.cells #[(vS s44.d.name),(vI (s44.d.rt)),(vI (s44.d.dl)),(Value.slice w39 (s44.d.xs.length) (c40)),(vI (s44.st)),(vI (s44.ix)),(vB s44.cn),(vI (s44.tr)),(vI (s44.bg)),(vI (s44.er))] 38 (0,0)):=⟨_,rfl⟩
   have f55:=set_same e54 f36
   have p56:=o42.keep fun b r hb q=>(Chg.set e54).same b r q (n50 b hb)
   have x57:=Ext.setNew x37 e54 o24
   obtain ⟨h58,e59,p60,c61,z62⟩:=(T.map.keep fun b r _ q=>x57 b r q).update_old mapty hq2 (s44,w39,c40)
   have z63:h.size≤h53.size:=(Chg.ext (O:=O) x57).size
   have x64:=(Chg.ext (O:=O) x57).then c61 (fun b hb=>.inl ((fun b hb=>(T.foot b).2 (.inr (.inl hb))) b hb))
   have f65:=c61.same _ _ (x57 _ _ T.row) (fun hb=>(T.map.keep fun b r _ q=>x57 b r q).ne (x57 _ _ T.row) (Eq.symm hb))
   have p66:=(T.lists.keep fun b r _ q=>x57 b r q).keep fun b r hb q=>c61.same b r q ((fun b hb hb2=>MapAt.off (T.map.keep fun b r _ q=>x57 b r q) ((T.lists.keep fun b r _ q=>x57 b r q)).celled b hb2 hb) b hb)
   have p67:=p56.keep fun b r hb q=>c61.same b r q (n51 b hb)
   refine wc_ev [evF 1 1 sn1,evC 4 3 0 agg55 T.row,evV 4 5 (vT #[(vA #[(vS cc3.1.d.name),(vI cc3.1.d.rt),(vI cc3.1.d.dl),(vL cc3.2.1 cc3.1.d.xs.length cc3.2.2),(vI cc3.1.st),(vI cc3.1.ix),(vB cc3.1.cn),(vI cc3.1.tr),(vI cc3.1.bg),(vI cc3.1.er)]),(vB true)]) (show lookupA Tryz.prog h 55 (Value.map (some mb)) (vI k) true=some (vT #[(vA #[(vS cc3.1.d.name),(vI cc3.1.d.rt),(vI cc3.1.d.dl),(vL cc3.2.1 cc3.1.d.xs.length cc3.2.2),(vI cc3.1.st),(vI cc3.1.ix),(vB cc3.1.cn),(vI cc3.1.tr),(vI cc3.1.bg),(vI cc3.1.er)]),(vB true)]) from T.map.lookup_some mapty hq2 true),evA 4 9 eb19 e21,evUw 4 10 size38 f22 e27,evLw 7 1 agg38 size38 f28,evFe 7 2 p41 s32,evUw 7 6 size38 f36 e54,evC 9 3 0 agg55 (x57 _ _ T.row),evLw 9 5 agg38 size38 f55,evH 9 6 undef h58 (show (mapUpdateA Tryz.prog h53 55 (Value.map (some mb)) (vI k) (vA #[(vS s44.d.name),(vI s44.d.rt),(vI s44.d.dl),(vL w39 s44.d.xs.length c40),(vI s44.st),(vI s44.ix),(vB s44.cn),(vI s44.tr),(vI s44.bg),(vI s44.er)])=some h58∧(undef:Value)=undef) from ⟨e59,rfl⟩)] .ret h58 [(6,(vI 0)),(11,(vP t 0)),(12,(vI 0)),(7,(vI 0)),(13,(vI 0)),(14,(vB false)),(17,(vP t 0)),(18,(vP t 0)),(19,(vP t 0)),(20,(Value.map (some mb))),(21,(vI k)),(22,(vT #[(vA #[(vS cc3.1.d.name),(vI cc3.1.d.rt),(vI cc3.1.d.dl),(vL cc3.2.1 cc3.1.d.xs.length cc3.2.2),(vI cc3.1.st),(vI cc3.1.ix),(vB cc3.1.cn),(vI cc3.1.tr),(vI cc3.1.bg),(vI cc3.1.er)]),(vB true)])),(16,(vT #[(vA #[(vS cc3.1.d.name),(vI cc3.1.d.rt),(vI cc3.1.d.dl),(vL cc3.2.1 cc3.1.d.xs.length cc3.2.2),(vI cc3.1.st),(vI cc3.1.ix),(vB cc3.1.cn),(vI cc3.1.tr),(vI cc3.1.bg),(vI cc3.1.er)]),(vB true)])),(23,(vA #[(vS cc3.1.d.name),(vI cc3.1.d.rt),(vI cc3.1.d.dl),(vL cc3.2.1 cc3.1.d.xs.length cc3.2.2),(vI cc3.1.st),(vI cc3.1.ix),(vB cc3.1.cn),(vI cc3.1.tr),(vI cc3.1.bg),(vI cc3.1.er)])),(24,(vB true)),(8,(vP b18 0)),(9,(vB true)),(25,(vB true)),(26,(vB false)),(28,(Value.func (.func 41) #[] #[])),(29,(vA #[(vS cc3.1.d.name),(vI cc3.1.d.rt),(vI cc3.1.d.dl),(vL cc3.2.1 cc3.1.d.xs.length cc3.2.2),(vI cc3.1.st),(vI cc3.1.ix),(vB cc3.1.cn),(vI cc3.1.tr),(vI cc3.1.bg),(vI cc3.1.er)])),(30,(vT #[(vA #[(vS s44.d.name),(vI s44.d.rt),(vI s44.d.dl),(vL w39 s44.d.xs.length c40),(vI s44.st),(vI s44.ix),(vB s44.cn),(vI s44.tr),(vI s44.bg),(vI s44.er)]),(vI 0)])),(27,(vT #[(vA #[(vS s44.d.name),(vI s44.d.rt),(vI s44.d.dl),(vL w39 s44.d.xs.length c40),(vI s44.st),(vI s44.ix),(vB s44.cn),(vI s44.tr),(vI s44.bg),(vI s44.er)]),(vI 0)])),(31,(vA #[(vS s44.d.name),(vI s44.d.rt),(vI s44.d.dl),(vL w39 s44.d.xs.length c40),(vI s44.st),(vI s44.ix),(vB s44.cn),(vI s44.tr),(vI s44.bg),(vI s44.er)])),(32,(vI 0)),(10,(vI 0)),(33,(vI 0)),(34,(vB true)),(35,(vP t 0)),(36,(vP t 0)),(37,(vP t 0)),(38,(Value.map (some mb))),(39,(vI k)),(40,(vA #[(vS s44.d.name),(vI s44.d.rt),(vI s44.d.dl),(vL w39 s44.d.xs.length c40),(vI s44.st),(vI s44.ix),(vB s44.cn),(vI s44.tr),(vI s44.bg),(vI s44.er)])),(41,(vI 0)),(6,(vI 0))] ?_
   obtain ⟨g1,g2⟩:=getE_some (plT_some hq2)
   have ee:canTE (plT ms) k=canE cc3.1:=by unfold canTE; rw [if_pos g1,g2]
   obtain ⟨O9,t9,o9⟩:=tb_set T (j:=k) (y:=(s44,w39,c40)) f65 p60 p66 p67 (fun b hb=>.inr (o52 b hb))
   exact end_ev [] (vI 0) (hK _ _ (⟨by rw [ee,c38],x64,O9,by unfold canTM; rw [ee,if_pos c38,g2]; rw [e45] at t9; exact t9,o9⟩))
  ·obtain ⟨h68,e69⟩:∃ zq,zq=h31.setIfInBounds b18 (.cells #[(vS .empty),(vI 0),(vI 0),(Value.slice none 0 0),(vI 0),(vI 0),(vB false),(vI 0),(vI 0),(vI 0)] 38 (0,0)):=⟨_,rfl⟩
   have x70:=Ext.setNew x37 e69 o24
   refine wc_ev [evF 1 1 sn1,evC 4 3 0 agg55 T.row,evV 4 5 (vT #[(vA #[(vS cc3.1.d.name),(vI cc3.1.d.rt),(vI cc3.1.d.dl),(vL cc3.2.1 cc3.1.d.xs.length cc3.2.2),(vI cc3.1.st),(vI cc3.1.ix),(vB cc3.1.cn),(vI cc3.1.tr),(vI cc3.1.bg),(vI cc3.1.er)]),(vB true)]) (show lookupA Tryz.prog h 55 (Value.map (some mb)) (vI k) true=some (vT #[(vA #[(vS cc3.1.d.name),(vI cc3.1.d.rt),(vI cc3.1.d.dl),(vL cc3.2.1 cc3.1.d.xs.length cc3.2.2),(vI cc3.1.st),(vI cc3.1.ix),(vB cc3.1.cn),(vI cc3.1.tr),(vI cc3.1.bg),(vI cc3.1.er)]),(vB true)]) from T.map.lookup_some mapty hq2 true),evA 4 9 eb19 e21,evUw 4 10 size38 f22 e27,evLw 7 1 agg38 size38 f28,evFe 7 2 (p33 c38) s32,evUw 7 6 size38 f36 e69,eqF 8 1 34 c38] .ret h68 [(6,(vI 0)),(11,(vP t 0)),(12,(vI 0)),(7,(vI 0)),(13,(vI 0)),(14,(vB false)),(17,(vP t 0)),(18,(vP t 0)),(19,(vP t 0)),(20,(Value.map (some mb))),(21,(vI k)),(22,(vT #[(vA #[(vS cc3.1.d.name),(vI cc3.1.d.rt),(vI cc3.1.d.dl),(vL cc3.2.1 cc3.1.d.xs.length cc3.2.2),(vI cc3.1.st),(vI cc3.1.ix),(vB cc3.1.cn),(vI cc3.1.tr),(vI cc3.1.bg),(vI cc3.1.er)]),(vB true)])),(16,(vT #[(vA #[(vS cc3.1.d.name),(vI cc3.1.d.rt),(vI cc3.1.d.dl),(vL cc3.2.1 cc3.1.d.xs.length cc3.2.2),(vI cc3.1.st),(vI cc3.1.ix),(vB cc3.1.cn),(vI cc3.1.tr),(vI cc3.1.bg),(vI cc3.1.er)]),(vB true)])),(23,(vA #[(vS cc3.1.d.name),(vI cc3.1.d.rt),(vI cc3.1.d.dl),(vL cc3.2.1 cc3.1.d.xs.length cc3.2.2),(vI cc3.1.st),(vI cc3.1.ix),(vB cc3.1.cn),(vI cc3.1.tr),(vI cc3.1.bg),(vI cc3.1.er)])),(24,(vB true)),(8,(vP b18 0)),(9,(vB true)),(25,(vB true)),(26,(vB false)),(28,(Value.func (.func 41) #[] #[])),(29,(vA #[(vS cc3.1.d.name),(vI cc3.1.d.rt),(vI cc3.1.d.dl),(vL cc3.2.1 cc3.1.d.xs.length cc3.2.2),(vI cc3.1.st),(vI cc3.1.ix),(vB cc3.1.cn),(vI cc3.1.tr),(vI cc3.1.bg),(vI cc3.1.er)])),(30,(vT #[(vA #[(vS .empty),(vI 0),(vI 0),(vL none 0 0),(vI 0),(vI 0),(vB false),(vI 0),(vI 0),(vI 0)]),(vI (canE cc3.1))])),(27,(vT #[(vA #[(vS .empty),(vI 0),(vI 0),(vL none 0 0),(vI 0),(vI 0),(vB false),(vI 0),(vI 0),(vI 0)]),(vI (canE cc3.1))])),(31,(vA #[(vS .empty),(vI 0),(vI 0),(vL none 0 0),(vI 0),(vI 0),(vB false),(vI 0),(vI 0),(vI 0)])),(32,(vI (canE cc3.1))),(10,(vI (canE cc3.1))),(33,(vI (canE cc3.1))),(34,(vB false)),(41,(vI (canE cc3.1))),(6,(vI (canE cc3.1)))] ?_
   obtain ⟨g1,g2⟩:=getE_some (plT_some hq2)
   have ee:canTE (plT ms) k=canE cc3.1:=by unfold canTE; rw [if_pos g1,g2]
   exact end_ev [] (vI (canE cc3.1)) (hK _ _ (⟨by rw [ee],Chg.ext x70,O,by unfold canTM; rw [ee,if_neg c38]; exact hT'.keep fun b r _ q=>x70 b r q,fun b hb=>.inl hb⟩))
set_option maxRecDepth 10000 in
set_option maxHeartbeats 4000000 in
theorem result1_ok (h:Heap) (s:SagaM) (sa:Option Addr) (cp:Nat) (hl:LAt h stepc 2 s.d.xs (.slice sa s.d.xs.length cp)) (hlen:s.d.xs.length≤9223372036854775807) (hok:chkS s=0) {e1 e2 e3 res now:Int} {be br bn:Nat} (hbe:h[be]?=some (.cells #[.int .i64 e1,.int .i64 e2,.int .i64 e3] 33 (0,0))) (hbr:h[br]?=some (.cells #[.int .i64 res] 34 (0,0))) (hbn:h[bn]?=some (.cells #[.int .i64 now] 3 (0,0))) (hg0:h[0]?=some (.cells #[(vI 0),(vI 1),(vI 3),(vI 2)] 128 (0,0))) (hg1:h[1]?=some (.cells #[Value.nilFunc,(Value.func (.func 178) #[] #[]),(Value.func (.func 179) #[] #[]),(Value.func (.func 180) #[] #[])] 130 (0,0))):WCall Tryz.prog 59 #[(Value.agg #[(vS s.d.name),(vI (s.d.rt)),(vI (s.d.dl)),(Value.slice sa (s.d.xs.length) (cp)),(vI (s.st)),(vI (s.ix)),(vB s.cn),(vI (s.tr)),(vI (s.bg)),(vI (s.er))]),(vP be 0),(vP br 0),(vP bn 0)] h (fun v h1=>(¬ resE s e1 e2 e3 res now=0→v=.tuple #[(Value.agg #[(vS .empty),(vI 0),(vI 0),(Value.slice none 0 0),(vI 0),(vI 0),(vB false),(vI 0),(vI 0),(vI 0)]),.int .i64 (resE s e1 e2 e3 res now)])∧(resE s e1 e2 e3 res now=0→∃ w cw,v=.tuple #[(Value.agg #[(vS s.d.name),(vI (s.d.rt)),(vI (s.d.dl)),(Value.slice w (s.d.xs.length) (cw)),(vI ((nxtS s res now).st)),(vI ((nxtS s res now).ix)),(vB (nxtS s res now).cn),(vI ((nxtS s res now).tr)),(vI ((nxtS s res now).bg)),(vI ((nxtS s res now).er))]),.int .i64 0]∧OwnAt h1 67 stepc s.d.xs (.slice w s.d.xs.length cw)∧∀ b,blk (.slice w s.d.xs.length cw) b→h.size≤b)∧Ext h h1):=by
 obtain ⟨b1,eb2⟩:∃ zq,zq=h.size:=⟨_,rfl⟩
 obtain ⟨h3,e4⟩:∃ zq,zq=h.push (.cells #[(vS s.d.name),(vI (s.d.rt)),(vI (s.d.dl)),(Value.slice sa (s.d.xs.length) (cp)),(vI (s.st)),(vI (s.ix)),(vB s.cn),(vI (s.tr)),(vI (s.bg)),(vI (s.er))] 38 (0,0)):=⟨_,rfl⟩
 have f5:=push_new e4
 rw [← eb2] at f5
 have x6:Ext h h3:=by rw [e4]; exact Ext.push _ _
 have o7:h.size≤b1:=by have:=(Ext.refl h).size; omega
 have x8:=(Ext.refl h).trans x6
 obtain ⟨b9,eb10⟩:∃ zq,zq=h3.size:=⟨_,rfl⟩
 obtain ⟨h11,e12⟩:∃ zq,zq=h3.push (.cells #[(vS .empty),(vI 0),(vI 0),(Value.slice none 0 0),(vI 0),(vI 0),(vB false),(vI 0),(vI 0),(vI 0)] 38 (0,0)):=⟨_,rfl⟩
 have f13:=push_new e12
 rw [← eb10] at f13
 have x14:Ext h3 h11:=by rw [e12]; exact Ext.push _ _
 have o15:h.size≤b9:=by have:=x8.size; omega
 have f17:=x14 _ _ f5
 have x18:=x8.trans x14
 obtain ⟨v19,h20,s21,p22,p23,x24⟩:=result_ok h11 s _ _ (hl.keep fun b r _ q=>x18 b r q) (by omega) (e1) (e2) (e3) (res) (now) (x18 _ _ hg0) (x18 _ _ hg1)
 have f25:=x24 _ _ f13
 have x26:=x18.trans x24
 by_cases c27:((resE s (e1) (e2) (e3) (res) (now)):Int)=0
 ·obtain ⟨w28,c29,p30,o31,n32⟩:=p23 c27
  obtain ⟨s33,e34⟩:∃ q,q=nxtS s (res) (now):=⟨_,rfl⟩
  have e35:s33.d=s.d:=by rw [e34]; exact nxtS_d _ _ _
  have e36:s33.d.xs.length=(s.d).xs.length:=by rw [e35]
  rw [← e34,← e35] at p30
  rw [← e35] at o31 n32
  have c37:chkS s33=0:=by rw [e34]; exact nxt_ok (resE_zero c27).1 (resE_zero c27).2.1 (resE_zero c27).2.2.2.1
  have z38:h.size≤h11.size:=x18.size
  have n39:∀ zz,blk (Value.slice w28 (s33.d.xs.length) (c29)) zz→¬ zz=b9:=fun zz hz ez=>by have:=n32 zz hz; have:=row_lt f13; omega
  have o40:∀ zz,blk (Value.slice w28 (s33.d.xs.length) (c29)) zz→h.size≤zz:=fun zz hz=>by have:=n32 zz hz; omega
  obtain ⟨h41,e42⟩:∃ zq,zq=h20.setIfInBounds b9 (.cells #[(vS s33.d.name),(vI (s33.d.rt)),(vI (s33.d.dl)),(Value.slice w28 (s33.d.xs.length) (c29)),(vI (s33.st)),(vI (s33.ix)),(vB s33.cn),(vI (s33.tr)),(vI (s33.bg)),(vI (s33.er))] 38 (0,0)):=⟨_,rfl⟩
  have f43:=set_same e42 f25
  have p44:=o31.keep fun b r hb q=>(Chg.set e42).same b r q (n39 b hb)
  have x45:=Ext.setNew x26 e42 o15
  have o9:=p44
  have n9:=o40
  rw [e35] at o9 n9
  exact hCall_ev [evA 0 0 eb2 e4,evA 0 1 eb10 e12,evLw 1 0 agg38 size38 f17,evLw 1 1 agg33 size33 (x18 _ _ hbe),evC 1 2 0 agg34 (x18 _ _ hbr),evC 1 3 0 agg3 (x18 _ _ hbn),evFe 1 4 p30 s21,evUw 1 7 size38 f25 e42] [evLw 0 0 agg38 size38 f43,evR (vI 0)] (vT #[(vA #[(vS s33.d.name),(vI s33.d.rt),(vI s33.d.dl),(vL w28 s33.d.xs.length c29),(vI s33.st),(vI s33.ix),(vB s33.cn),(vI s33.tr),(vI s33.bg),(vI s33.er)]),(vI 0)]) h41 ⟨fun w=>absurd c27 w,fun _=>⟨w28,c29,by rw [e35,e34],o9,n9⟩,x45⟩
 ·obtain ⟨h46,e47⟩:∃ zq,zq=h20.setIfInBounds b9 (.cells #[(vS .empty),(vI 0),(vI 0),(Value.slice none 0 0),(vI 0),(vI 0),(vB false),(vI 0),(vI 0),(vI 0)] 38 (0,0)):=⟨_,rfl⟩
  have f48:=set_same e47 f25
  have x49:=Ext.setNew x26 e47 o15
  exact hCall_ev [evA 0 0 eb2 e4,evA 0 1 eb10 e12,evLw 1 0 agg38 size38 f17,evLw 1 1 agg33 size33 (x18 _ _ hbe),evC 1 2 0 agg34 (x18 _ _ hbr),evC 1 3 0 agg3 (x18 _ _ hbn),evFe 1 4 (p22 c27) s21,evUw 1 7 size38 f25 e47] [evLw 0 0 agg38 size38 f48,evR (vI (resE s (e1) (e2) (e3) (res) (now)))] (vT #[(vA #[(vS .empty),(vI 0),(vI 0),(vL none 0 0),(vI 0),(vI 0),(vB false),(vI 0),(vI 0),(vI 0)]),(vI (resE s (e1) (e2) (e3) (res) (now)))]) h46 ⟨fun _=>rfl,fun w=>absurd w c27,x49⟩
set_option maxHeartbeats 4000000 in
theorem chres_ok_r (h:Heap) {O:Nat→Prop} {t mb:Nat} {ms:TabS} (T:TbRow 57 h O t ms mb) (ok:WfT (plT ms)) (k:Int) {e1 e2 e3 res now:Int} {be br bn:Nat} (hbe:h[be]?=some (.cells #[.int .i64 e1,.int .i64 e2,.int .i64 e3] 33 (0,0))) (hbr:h[br]?=some (.cells #[.int .i64 res] 34 (0,0))) (hbn:h[bn]?=some (.cells #[.int .i64 now] 3 (0,0))) (hg0:h[0]?=some (.cells #[(vI 0),(vI 1),(vI 3),(vI 2)] 128 (0,0))) (hg1:h[1]?=some (.cells #[Value.nilFunc,(Value.func (.func 178) #[] #[]),(Value.func (.func 179) #[] #[]),(Value.func (.func 180) #[] #[])] 130 (0,0))):WCall Tryz.prog 58 #[(vP t 0),(vI (k)),(Value.func (.func 59) #[] #[(vP be 0),(vP br 0),(vP bn 0)])] h (fun v h1=>v=.int .i64 (chresE (plT ms) k e1 e2 e3 res now)∧Chg O h h1∧∃ O',TbAt 57 h1 O' t (chresM (plT ms) k e1 e2 e3 res now)∧∀ b,O' b→O b ∨ h.size≤b):=by
 have hT':TbAt 57 h O t (plT ms):=⟨ms,mb,rfl,T⟩
 refine wcall_by fun K hK=>?_
 refine wcall_at { tmps:=#[(vP t 0),(vI k),(Value.func (.func 59) #[] #[(vP be 0),(vP br 0),(vP bn 0)]),vZ,vZ,vZ,vZ,vZ,vZ,vZ,vZ,vZ,vZ,vZ,vZ,vZ,vZ,vZ,vZ,vZ,vZ,vZ,vZ,vZ,vZ,vZ,vZ,vZ,vZ,vZ,vZ,vZ,vZ,vZ,vZ,vZ,vZ,vZ,vZ,vZ,vZ,vZ],defers:=[] } (by kernel_rfl) ?_
 obtain ⟨_,_,sn1,rfl,rfl⟩:=made_ok h ((Ext.refl h) _ _ T.row)
 rcases hq2:findK ms (k) with _ | cc3
 ·obtain ⟨b4,eb5⟩:∃ zq,zq=h.size:=⟨_,rfl⟩
  obtain ⟨h6,e7⟩:∃ zq,zq=h.push (.cells #[(vS .empty),(vI 0),(vI 0),(Value.slice none 0 0),(vI 0),(vI 0),(vB false),(vI 0),(vI 0),(vI 0)] 38 (0,0)):=⟨_,rfl⟩
  have f9:=push_new e7
  rw [← eb5] at f9
  have x10:Ext h h6:=by rw [e7]; exact Ext.push _ _
  have o11:h.size≤b4:=by have:=(Ext.refl h).size; omega
  have x12:=(Ext.refl h).trans x10
  obtain ⟨h13,e14⟩:∃ zq,zq=h6.setIfInBounds b4 (.cells #[(vS .empty),(vI 0),(vI 0),(Value.slice none 0 0),(vI 0),(vI 0),(vB false),(vI 0),(vI 0),(vI 0)] 38 (0,0)):=⟨_,rfl⟩
  have x15:=Ext.setNew x12 e14 o11
  refine wc_ev [evF 1 1 sn1,evC 4 3 0 agg55 ((Ext.refl h) _ _ T.row),evV 4 5 (vT #[(vA #[(vS .empty),(vI 0),(vI 0),(vL none 0 0),(vI 0),(vI 0),(vB false),(vI 0),(vI 0),(vI 0)]),(vB false)]) (show lookupA Tryz.prog h 55 (Value.map (some mb)) (vI k) true=some (vT #[(vA #[(vS .empty),(vI 0),(vI 0),(vL none 0 0),(vI 0),(vI 0),(vB false),(vI 0),(vI 0),(vI 0)]),(vB false)]) from (T.map.keep fun b r _ q=>(Ext.refl h) b r q).lookup_none mapty zero38 hq2 true),evA 4 9 eb5 e7,evUw 4 10 size38 f9 e14] .ret h13 [(6,(vI 0)),(11,(vP t 0)),(12,(vI 0)),(7,(vI 0)),(13,(vI 0)),(14,(vB false)),(17,(vP t 0)),(18,(vP t 0)),(19,(vP t 0)),(20,(Value.map (some mb))),(21,(vI k)),(22,(vT #[(vA #[(vS .empty),(vI 0),(vI 0),(vL none 0 0),(vI 0),(vI 0),(vB false),(vI 0),(vI 0),(vI 0)]),(vB false)])),(16,(vT #[(vA #[(vS .empty),(vI 0),(vI 0),(vL none 0 0),(vI 0),(vI 0),(vB false),(vI 0),(vI 0),(vI 0)]),(vB false)])),(23,(vA #[(vS .empty),(vI 0),(vI 0),(vL none 0 0),(vI 0),(vI 0),(vB false),(vI 0),(vI 0),(vI 0)])),(24,(vB false)),(8,(vP b4 0)),(9,(vB false)),(25,(vB false)),(26,(vB true)),(6,(vI 5))] ?_
  have gg:=(getE_none (plT_no hq2)).1
  have ee:chresE (plT ms) k e1 e2 e3 res now=5:=by unfold chresE; rw [if_neg (by rw [gg]; decide)]
  exact end_ev [] (vI 5) (hK _ _ (⟨by rw [ee],Chg.ext x15,O,by unfold chresM; rw [ee,if_neg (by decide)]; exact hT'.keep fun b r _ q=>x15 b r q,fun b hb=>.inl hb⟩))
 ·obtain ⟨khq16,ihq17⟩:=ok.at (plT_some hq2)
  obtain ⟨zhq4168d,_,_⟩:=chkS_zero khq16
  have:=defB_of zhq4168d
  obtain ⟨b18,eb19⟩:∃ zq,zq=h.size:=⟨_,rfl⟩
  obtain ⟨h20,e21⟩:∃ zq,zq=h.push (.cells #[(vS .empty),(vI 0),(vI 0),(Value.slice none 0 0),(vI 0),(vI 0),(vB false),(vI 0),(vI 0),(vI 0)] 38 (0,0)):=⟨_,rfl⟩
  have f22:=push_new e21
  rw [← eb19] at f22
  have x23:Ext h h20:=by rw [e21]; exact Ext.push _ _
  have o24:h.size≤b18:=by have:=(Ext.refl h).size; omega
  have x25:=(Ext.refl h).trans x23
  obtain ⟨h26,e27⟩:∃ zq,zq=h20.setIfInBounds b18 (.cells #[(vS cc3.1.d.name),(vI (cc3.1.d.rt)),(vI (cc3.1.d.dl)),(Value.slice cc3.2.1 (cc3.1.d.xs.length) (cc3.2.2)),(vI (cc3.1.st)),(vI (cc3.1.ix)),(vB cc3.1.cn),(vI (cc3.1.tr)),(vI (cc3.1.bg)),(vI (cc3.1.er))] 38 (0,0)):=⟨_,rfl⟩
  have f28:=set_same e27 f22
  have x29:=Ext.setNew x25 e27 o24
  obtain ⟨v30,h31,s32,p33,p34,x35⟩:=result1_ok h26 cc3.1 _ _ ((T.lists.at hq2).keep fun b r _ q=>x29 b r q) (by omega) (ok.at (plT_some hq2)).1 (x29 _ _ hbe) (x29 _ _ hbr) (x29 _ _ hbn) (x29 _ _ hg0) (x29 _ _ hg1)
  have f36:=x35 _ _ f28
  have x37:=x29.trans x35
  by_cases c38:((resE cc3.1 (e1) (e2) (e3) (res) (now)):Int)=0
  ·obtain ⟨w39,c40,p41,o42,n43⟩:=p34 c38
   obtain ⟨s44,e45⟩:∃ q,q=nxtS cc3.1 (res) (now):=⟨_,rfl⟩
   have e46:s44.d=cc3.1.d:=by rw [e45]; exact nxtS_d _ _ _
   have e47:s44.d.xs.length=(cc3.1.d).xs.length:=by rw [e46]
   rw [← e45,← e46] at p41
   rw [← e46] at o42 n43
   have c48:chkS s44=0:=by rw [e45]; exact nxt_ok (resE_zero c38).1 (resE_zero c38).2.1 (resE_zero c38).2.2.2.1
   have z49:h.size≤h26.size:=x29.size
   have n50:∀ zz,blk (Value.slice w39 (s44.d.xs.length) (c40)) zz→¬ zz=b18:=fun zz hz ez=>by have:=n43 zz hz; have:=row_lt f28; omega
   have n51:∀ zz,blk (Value.slice w39 (s44.d.xs.length) (c40)) zz→¬ (fun q=>q=mb) zz:=fun zz hz ez=>by have:=n43 zz hz; have:=(T.map.keep fun b r _ q=>x29 b r q).blk_lt ez; omega
   have o52:∀ zz,blk (Value.slice w39 (s44.d.xs.length) (c40)) zz→h.size≤zz:=fun zz hz=>by have:=n43 zz hz; omega
   obtain ⟨h53,e54⟩:∃ zq,zq=h31.setIfInBounds b18 (.cells #[(vS s44.d.name),(vI (s44.d.rt)),(vI (s44.d.dl)),(Value.slice w39 (s44.d.xs.length) (c40)),(vI (s44.st)),(vI (s44.ix)),(vB s44.cn),(vI (s44.tr)),(vI (s44.bg)),(vI (s44.er))] 38 (0,0)):=⟨_,rfl⟩
   have f55:=set_same e54 f36
   have p56:=o42.keep fun b r hb q=>(Chg.set e54).same b r q (n50 b hb)
   have x57:=Ext.setNew x37 e54 o24
   obtain ⟨h58,e59,p60,c61,z62⟩:=(T.map.keep fun b r _ q=>x57 b r q).update_old mapty hq2 (s44,w39,c40)
   have z63:h.size≤h53.size:=(Chg.ext (O:=O) x57).size
   have x64:=(Chg.ext (O:=O) x57).then c61 (fun b hb=>.inl ((fun b hb=>(T.foot b).2 (.inr (.inl hb))) b hb))
   have f65:=c61.same _ _ (x57 _ _ T.row) (fun hb=>(T.map.keep fun b r _ q=>x57 b r q).ne (x57 _ _ T.row) (Eq.symm hb))
   have p66:=(T.lists.keep fun b r _ q=>x57 b r q).keep fun b r hb q=>c61.same b r q ((fun b hb hb2=>MapAt.off (T.map.keep fun b r _ q=>x57 b r q) ((T.lists.keep fun b r _ q=>x57 b r q)).celled b hb2 hb) b hb)
   have p67:=p56.keep fun b r hb q=>c61.same b r q (n51 b hb)
   refine wc_ev [evF 1 1 sn1,evC 4 3 0 agg55 ((Ext.refl h) _ _ T.row),evV 4 5 (vT #[(vA #[(vS cc3.1.d.name),(vI cc3.1.d.rt),(vI cc3.1.d.dl),(vL cc3.2.1 cc3.1.d.xs.length cc3.2.2),(vI cc3.1.st),(vI cc3.1.ix),(vB cc3.1.cn),(vI cc3.1.tr),(vI cc3.1.bg),(vI cc3.1.er)]),(vB true)]) (show lookupA Tryz.prog h 55 (Value.map (some mb)) (vI k) true=some (vT #[(vA #[(vS cc3.1.d.name),(vI cc3.1.d.rt),(vI cc3.1.d.dl),(vL cc3.2.1 cc3.1.d.xs.length cc3.2.2),(vI cc3.1.st),(vI cc3.1.ix),(vB cc3.1.cn),(vI cc3.1.tr),(vI cc3.1.bg),(vI cc3.1.er)]),(vB true)]) from (T.map.keep fun b r _ q=>(Ext.refl h) b r q).lookup_some mapty hq2 true),evA 4 9 eb19 e21,evUw 4 10 size38 f22 e27,evLw 7 1 agg38 size38 f28,evFe 7 2 p41 s32,evUw 7 6 size38 f36 e54,evC 9 3 0 agg55 (x57 _ _ T.row),evLw 9 5 agg38 size38 f55,evH 9 6 undef h58 (show (mapUpdateA Tryz.prog h53 55 (Value.map (some mb)) (vI k) (vA #[(vS s44.d.name),(vI s44.d.rt),(vI s44.d.dl),(vL w39 s44.d.xs.length c40),(vI s44.st),(vI s44.ix),(vB s44.cn),(vI s44.tr),(vI s44.bg),(vI s44.er)])=some h58∧(undef:Value)=undef) from ⟨e59,rfl⟩)] .ret h58 [(6,(vI 0)),(11,(vP t 0)),(12,(vI 0)),(7,(vI 0)),(13,(vI 0)),(14,(vB false)),(17,(vP t 0)),(18,(vP t 0)),(19,(vP t 0)),(20,(Value.map (some mb))),(21,(vI k)),(22,(vT #[(vA #[(vS cc3.1.d.name),(vI cc3.1.d.rt),(vI cc3.1.d.dl),(vL cc3.2.1 cc3.1.d.xs.length cc3.2.2),(vI cc3.1.st),(vI cc3.1.ix),(vB cc3.1.cn),(vI cc3.1.tr),(vI cc3.1.bg),(vI cc3.1.er)]),(vB true)])),(16,(vT #[(vA #[(vS cc3.1.d.name),(vI cc3.1.d.rt),(vI cc3.1.d.dl),(vL cc3.2.1 cc3.1.d.xs.length cc3.2.2),(vI cc3.1.st),(vI cc3.1.ix),(vB cc3.1.cn),(vI cc3.1.tr),(vI cc3.1.bg),(vI cc3.1.er)]),(vB true)])),(23,(vA #[(vS cc3.1.d.name),(vI cc3.1.d.rt),(vI cc3.1.d.dl),(vL cc3.2.1 cc3.1.d.xs.length cc3.2.2),(vI cc3.1.st),(vI cc3.1.ix),(vB cc3.1.cn),(vI cc3.1.tr),(vI cc3.1.bg),(vI cc3.1.er)])),(24,(vB true)),(8,(vP b18 0)),(9,(vB true)),(25,(vB true)),(26,(vB false)),(28,(Value.func (.func 59) #[] #[(vP be 0),(vP br 0),(vP bn 0)])),(29,(vA #[(vS cc3.1.d.name),(vI cc3.1.d.rt),(vI cc3.1.d.dl),(vL cc3.2.1 cc3.1.d.xs.length cc3.2.2),(vI cc3.1.st),(vI cc3.1.ix),(vB cc3.1.cn),(vI cc3.1.tr),(vI cc3.1.bg),(vI cc3.1.er)])),(30,(vT #[(vA #[(vS s44.d.name),(vI s44.d.rt),(vI s44.d.dl),(vL w39 s44.d.xs.length c40),(vI s44.st),(vI s44.ix),(vB s44.cn),(vI s44.tr),(vI s44.bg),(vI s44.er)]),(vI 0)])),(27,(vT #[(vA #[(vS s44.d.name),(vI s44.d.rt),(vI s44.d.dl),(vL w39 s44.d.xs.length c40),(vI s44.st),(vI s44.ix),(vB s44.cn),(vI s44.tr),(vI s44.bg),(vI s44.er)]),(vI 0)])),(31,(vA #[(vS s44.d.name),(vI s44.d.rt),(vI s44.d.dl),(vL w39 s44.d.xs.length c40),(vI s44.st),(vI s44.ix),(vB s44.cn),(vI s44.tr),(vI s44.bg),(vI s44.er)])),(32,(vI 0)),(10,(vI 0)),(33,(vI 0)),(34,(vB true)),(35,(vP t 0)),(36,(vP t 0)),(37,(vP t 0)),(38,(Value.map (some mb))),(39,(vI k)),(40,(vA #[(vS s44.d.name),(vI s44.d.rt),(vI s44.d.dl),(vL w39 s44.d.xs.length c40),(vI s44.st),(vI s44.ix),(vB s44.cn),(vI s44.tr),(vI s44.bg),(vI s44.er)])),(41,(vI 0)),(6,(vI 0))] ?_
   obtain ⟨g1,g2⟩:=getE_some (plT_some hq2)
   have ee:chresE (plT ms) k e1 e2 e3 res now=resE cc3.1 e1 e2 e3 res now:=by unfold chresE; rw [if_pos g1,g2]
   obtain ⟨O9,t9,o9⟩:=tb_set T (j:=k) (y:=(s44,w39,c40)) f65 p60 p66 p67 (fun b hb=>.inr (o52 b hb))
   exact end_ev [] (vI 0) (hK _ _ (⟨by rw [ee,c38],x64,O9,by unfold chresM; rw [ee,if_pos c38,g2]; rw [e45] at t9; exact t9,o9⟩))
  ·obtain ⟨h68,e69⟩:∃ zq,zq=h31.setIfInBounds b18 (.cells #[(vS .empty),(vI 0),(vI 0),(Value.slice none 0 0),(vI 0),(vI 0),(vB false),(vI 0),(vI 0),(vI 0)] 38 (0,0)):=⟨_,rfl⟩
   have x70:=Ext.setNew x37 e69 o24
   refine wc_ev [evF 1 1 sn1,evC 4 3 0 agg55 ((Ext.refl h) _ _ T.row),evV 4 5 (vT #[(vA #[(vS cc3.1.d.name),(vI cc3.1.d.rt),(vI cc3.1.d.dl),(vL cc3.2.1 cc3.1.d.xs.length cc3.2.2),(vI cc3.1.st),(vI cc3.1.ix),(vB cc3.1.cn),(vI cc3.1.tr),(vI cc3.1.bg),(vI cc3.1.er)]),(vB true)]) (show lookupA Tryz.prog h 55 (Value.map (some mb)) (vI k) true=some (vT #[(vA #[(vS cc3.1.d.name),(vI cc3.1.d.rt),(vI cc3.1.d.dl),(vL cc3.2.1 cc3.1.d.xs.length cc3.2.2),(vI cc3.1.st),(vI cc3.1.ix),(vB cc3.1.cn),(vI cc3.1.tr),(vI cc3.1.bg),(vI cc3.1.er)]),(vB true)]) from (T.map.keep fun b r _ q=>(Ext.refl h) b r q).lookup_some mapty hq2 true),evA 4 9 eb19 e21,evUw 4 10 size38 f22 e27,evLw 7 1 agg38 size38 f28,evFe 7 2 (p33 c38) s32,evUw 7 6 size38 f36 e69,eqF 8 1 34 c38] .ret h68 [(6,(vI 0)),(11,(vP t 0)),(12,(vI 0)),(7,(vI 0)),(13,(vI 0)),(14,(vB false)),(17,(vP t 0)),(18,(vP t 0)),(19,(vP t 0)),(20,(Value.map (some mb))),(21,(vI k)),(22,(vT #[(vA #[(vS cc3.1.d.name),(vI cc3.1.d.rt),(vI cc3.1.d.dl),(vL cc3.2.1 cc3.1.d.xs.length cc3.2.2),(vI cc3.1.st),(vI cc3.1.ix),(vB cc3.1.cn),(vI cc3.1.tr),(vI cc3.1.bg),(vI cc3.1.er)]),(vB true)])),(16,(vT #[(vA #[(vS cc3.1.d.name),(vI cc3.1.d.rt),(vI cc3.1.d.dl),(vL cc3.2.1 cc3.1.d.xs.length cc3.2.2),(vI cc3.1.st),(vI cc3.1.ix),(vB cc3.1.cn),(vI cc3.1.tr),(vI cc3.1.bg),(vI cc3.1.er)]),(vB true)])),(23,(vA #[(vS cc3.1.d.name),(vI cc3.1.d.rt),(vI cc3.1.d.dl),(vL cc3.2.1 cc3.1.d.xs.length cc3.2.2),(vI cc3.1.st),(vI cc3.1.ix),(vB cc3.1.cn),(vI cc3.1.tr),(vI cc3.1.bg),(vI cc3.1.er)])),(24,(vB true)),(8,(vP b18 0)),(9,(vB true)),(25,(vB true)),(26,(vB false)),(28,(Value.func (.func 59) #[] #[(vP be 0),(vP br 0),(vP bn 0)])),(29,(vA #[(vS cc3.1.d.name),(vI cc3.1.d.rt),(vI cc3.1.d.dl),(vL cc3.2.1 cc3.1.d.xs.length cc3.2.2),(vI cc3.1.st),(vI cc3.1.ix),(vB cc3.1.cn),(vI cc3.1.tr),(vI cc3.1.bg),(vI cc3.1.er)])),(30,(vT #[(vA #[(vS .empty),(vI 0),(vI 0),(vL none 0 0),(vI 0),(vI 0),(vB false),(vI 0),(vI 0),(vI 0)]),(vI (resE cc3.1 (e1) (e2) (e3) (res) (now)))])),(27,(vT #[(vA #[(vS .empty),(vI 0),(vI 0),(vL none 0 0),(vI 0),(vI 0),(vB false),(vI 0),(vI 0),(vI 0)]),(vI (resE cc3.1 (e1) (e2) (e3) (res) (now)))])),(31,(vA #[(vS .empty),(vI 0),(vI 0),(vL none 0 0),(vI 0),(vI 0),(vB false),(vI 0),(vI 0),(vI 0)])),(32,(vI (resE cc3.1 (e1) (e2) (e3) (res) (now)))),(10,(vI (resE cc3.1 (e1) (e2) (e3) (res) (now)))),(33,(vI (resE cc3.1 (e1) (e2) (e3) (res) (now)))),(34,(vB false)),(41,(vI (resE cc3.1 (e1) (e2) (e3) (res) (now)))),(6,(vI (resE cc3.1 (e1) (e2) (e3) (res) (now))))] ?_
   obtain ⟨g1,g2⟩:=getE_some (plT_some hq2)
   have ee:chresE (plT ms) k e1 e2 e3 res now=resE cc3.1 e1 e2 e3 res now:=by unfold chresE; rw [if_pos g1,g2]
   exact end_ev [] (vI (resE cc3.1 (e1) (e2) (e3) (res) (now))) (hK _ _ (⟨by rw [ee],Chg.ext x70,O,by unfold chresM; rw [ee,if_neg c38]; exact hT'.keep fun b r _ q=>x70 b r q,fun b hb=>.inl hb⟩))
set_option maxHeartbeats 4000000 in
theorem tcancel_ok_r (h:Heap) {O:Nat→Prop} {t mb:Nat} {ms:TabS} (T:TbRow 57 h O t ms mb) (ok:WfT (plT ms)) (k:Int):WCall Tryz.prog 19 #[(vP t 0),(vI (k))] h (fun v h1=>v=.int .i64 (canTE (plT ms) k)∧Chg O h h1∧∃ O',TbAt 57 h1 O' t (canTM (plT ms) k)∧∀ b,O' b→O b ∨ h.size≤b):=by
 have hT':TbAt 57 h O t (plT ms):=⟨ms,mb,rfl,T⟩
 refine wcall_by fun K hK=>?_
 refine wcall_at { tmps:=#[(vP t 0),(vI k),vZ,vZ,vZ,vZ,vZ,vZ],defers:=[] } (by kernel_rfl) ?_
 obtain ⟨_,h2,s3,rfl,x4,O4271,p5,o6⟩:=chcan_ok_r h (T.keep fun b r _ q=>(Ext.refl h) b r q) ok (k)
 refine wc_ev [evF 1 2 s3] .ret h2 [(4,(vI 0)),(5,(vP t 0)),(6,(vI k)),(7,(vI (canTE (plT ms) (k)))),(4,(vI (canTE (plT ms) (k))))] ?_
 exact end_ev [] (vI (canTE (plT ms) (k))) (hK _ _ (⟨rfl,((Chg.ext (O:=O) (Ext.refl h)).trans x4),O4271,p5,fun b hb=>(o6 b hb).imp id fun w=>by have:=((Ext.refl h)).size; omega⟩))
theorem tcancel_ok (h:Heap) {O:Nat→Prop} {t:Nat} {m:Tab} (hT:TbAt 57 h O t m) (ok:WfT m) (k:Int):WCall Tryz.prog 19 #[(vP t 0),(vI (k))] h (fun v h1=>v=.int .i64 (canTE m k)∧Chg O h h1∧∃ O',TbAt 57 h1 O' t (canTM m k)∧∀ b,O' b→O b ∨ h.size≤b):=by
 obtain ⟨ms,mb,rfl,T⟩:=hT
 exact tcancel_ok_r h T ok k
set_option maxHeartbeats 4000000 in
theorem tresult_ok_r (h:Heap) {O:Nat→Prop} {t mb:Nat} {ms:TabS} (T:TbRow 57 h O t ms mb) (ok:WfT (plT ms)) (k e1 e2 e3 res now:Int) (hg0:h[0]?=some (.cells #[(vI 0),(vI 1),(vI 3),(vI 2)] 128 (0,0))) (hg1:h[1]?=some (.cells #[Value.nilFunc,(Value.func (.func 178) #[] #[]),(Value.func (.func 179) #[] #[]),(Value.func (.func 180) #[] #[])] 130 (0,0))):WCall Tryz.prog 17 #[(vP t 0),(vI (k)),(Value.agg #[(vI (e1)),(vI (e2)),(vI (e3))]),(vI (res)),(vI (now))] h (fun v h1=>v=.int .i64 (resTE (plT ms) k e1 e2 e3 res now)∧Chg O h h1∧∃ O',TbAt 57 h1 O' t (resTM (plT ms) k e1 e2 e3 res now)∧∀ b,O' b→O b ∨ h.size≤b):=by
 have hT':TbAt 57 h O t (plT ms):=⟨ms,mb,rfl,T⟩
 refine wcall_by fun K hK=>?_
 refine wcall_at { tmps:=#[(vP t 0),(vI k),(vA #[(vI e1),(vI e2),(vI e3)]),(vI res),(vI now),vZ,vZ,vZ,vZ,vZ,vZ,vZ,vZ,vZ,vZ,vZ,vZ,vZ,vZ,vZ],defers:=[] } (by kernel_rfl) ?_
 obtain ⟨b1,eb2⟩:∃ zq,zq=h.size:=⟨_,rfl⟩
 obtain ⟨h3,e4⟩:∃ zq,zq=h.push (.cells #[(vI (e1)),(vI (e2)),(vI (e3))] 33 (0,0)):=⟨_,rfl⟩
 have f5:=push_new e4
 rw [← eb2] at f5
 have x6:Ext h h3:=by rw [e4]; exact Ext.push _ _
 have o7:h.size≤b1:=by have:=(Ext.refl h).size; omega
 have x8:=(Ext.refl h).trans x6
 obtain ⟨b9,eb10⟩:∃ zq,zq=h3.size:=⟨_,rfl⟩
 obtain ⟨h11,e12⟩:∃ zq,zq=h3.push (.cells #[(vI (res))] 34 (0,0)):=⟨_,rfl⟩
 have f13:=push_new e12
 rw [← eb10] at f13
 have n14:b9 ≠ b1:=by have:=row_lt f5; omega
 have x15:Ext h3 h11:=by rw [e12]; exact Ext.push _ _
 have o16:h.size≤b9:=by have:=x8.size; omega
 have f17:=x15 _ _ f5
 have x18:=x8.trans x15
 obtain ⟨b19,eb20⟩:∃ zq,zq=h11.size:=⟨_,rfl⟩
 obtain ⟨h21,e22⟩:∃ zq,zq=h11.push (.cells #[(vI (now))] 3 (0,0)):=⟨_,rfl⟩
 have f23:=push_new e22
 rw [← eb20] at f23
 have n24:b19 ≠ b1:=by have:=row_lt f17; omega
 have x25:Ext h11 h21:=by rw [e22]; exact Ext.push _ _
 have o26:h.size≤b19:=by have:=x18.size; omega
 have f27:=x25 _ _ f17
 have f28:=x25 _ _ f13
 have x29:=x18.trans x25
 obtain ⟨h30,e31⟩:∃ zq,zq=h21.setIfInBounds b1 (.cells #[(vI (effD (e1) (k))),(vI (e2)),(vI (e3))] 33 (0,0)):=⟨_,rfl⟩
 have f33:=set_same e31 f27
 have f34:=set_other e31 f28 n14.symm
 have f35:=set_other e31 f23 n24.symm
 have x36:=Ext.setNew x29 e31 o7
 obtain ⟨_,h37,s38,rfl,x39,O4329,p40,o41⟩:=chres_ok_r h30 (T.keep fun b r _ q=>x36 b r q) ok (k) f33 f34 f35 (x36 _ _ hg0) (x36 _ _ hg1)
 refine wc_ev [evA 0 0 eb2 e4,evA 0 1 eb10 e12,evA 0 2 eb20 e22,evC 1 1 0 agg3 f27,evV 1 3 (vI (effD (e1) (k))) (show binA Tryz.prog .sub 3 (vI e1) (vI k)=some (vI (effD (e1) (k))) from sub_wrap),evT 1 5 0 size3 f27 e31,evF 2 3 s38] .ret h37 [(7,(vP b1 0)),(8,(vP b9 0)),(9,(vP b19 0)),(10,(vI 0)),(11,(vP b1 0)),(12,(vI e1)),(13,(vI k)),(14,(vI (effD (e1) (k)))),(15,(vP b1 0)),(16,(vP t 0)),(17,(vI k)),(18,(Value.func (.func 59) #[] #[(vP b1 0),(vP b9 0),(vP b19 0)])),(19,(vI (chresE (plT ms) (k) (effD (e1) (k)) (e2) (e3) (res) (now)))),(10,(vI (chresE (plT ms) (k) (effD (e1) (k)) (e2) (e3) (res) (now))))] ?_
 exact end_ev [] (vI (chresE (plT ms) (k) (effD (e1) (k)) (e2) (e3) (res) (now))) (hK _ _ (⟨rfl,((Chg.ext (O:=O) x36).trans x39),O4329,p40,fun b hb=>(o41 b hb).imp id fun w=>by have:=(x36).size; omega⟩))
theorem tresult_ok (h:Heap) {O:Nat→Prop} {t:Nat} {m:Tab} (hT:TbAt 57 h O t m) (ok:WfT m) (k e1 e2 e3 res now:Int) (hg0:h[0]?=some (.cells #[(vI 0),(vI 1),(vI 3),(vI 2)] 128 (0,0))) (hg1:h[1]?=some (.cells #[Value.nilFunc,(Value.func (.func 178) #[] #[]),(Value.func (.func 179) #[] #[]),(Value.func (.func 180) #[] #[])] 130 (0,0))):WCall Tryz.prog 17 #[(vP t 0),(vI (k)),(Value.agg #[(vI (e1)),(vI (e2)),(vI (e3))]),(vI (res)),(vI (now))] h (fun v h1=>v=.int .i64 (resTE m k e1 e2 e3 res now)∧Chg O h h1∧∃ O',TbAt 57 h1 O' t (resTM m k e1 e2 e3 res now)∧∀ b,O' b→O b ∨ h.size≤b):=by
 obtain ⟨ms,mb,rfl,T⟩:=hT
 exact tresult_ok_r h T ok k e1 e2 e3 res now hg0 hg1
set_option maxHeartbeats 4000000 in
theorem get1_ok (h:Heap) (s:SagaM) (sa:Option Addr) (cp:Nat) (hl:LAt h stepc 2 s.d.xs (.slice sa s.d.xs.length cp)) (hlen:s.d.xs.length≤1048576) {bo:Nat} (hbo:h[bo]?=some (.cells #[(vS .empty),(vI 0),(vI 0),(Value.slice none 0 0),(vI 0),(vI 0),(vB false),(vI 0),(vI 0),(vI 0)] 38 (0,0))) (hbl:∀ b,blk (.slice sa s.d.xs.length cp) b→¬ b=bo):WCall Tryz.prog 73 #[(Value.agg #[(vS s.d.name),(vI (s.d.rt)),(vI (s.d.dl)),(Value.slice sa (s.d.xs.length) (cp)),(vI (s.st)),(vI (s.ix)),(vB s.cn),(vI (s.tr)),(vI (s.bg)),(vI (s.er))]),(vP bo 0)] h (fun v h1=>v=.tuple #[(Value.agg #[(vS s.d.name),(vI (s.d.rt)),(vI (s.d.dl)),(Value.slice sa (s.d.xs.length) (cp)),(vI (s.st)),(vI (s.ix)),(vB s.cn),(vI (s.tr)),(vI (s.bg)),(vI (s.er))]),.int .i64 0]∧Chg (fun q=>q=bo) h h1∧∃ w cw,h1[bo]?=some (.cells #[(vS s.d.name),(vI (s.d.rt)),(vI (s.d.dl)),(Value.slice w (s.d.xs.length) (cw)),(vI (s.st)),(vI (s.ix)),(vB s.cn),(vI (s.tr)),(vI (s.bg)),(vI (s.er))] 38 (0,0))∧OwnAt h1 67 stepc s.d.xs (.slice w s.d.xs.length cw)∧∀ b,blk (.slice w s.d.xs.length cw) b→h.size≤b):=by
 obtain ⟨b1,eb2⟩:∃ zq,zq=h.size:=⟨_,rfl⟩
 obtain ⟨h3,e4⟩:∃ zq,zq=h.push (.cells #[(vS s.d.name),(vI (s.d.rt)),(vI (s.d.dl)),(Value.slice sa (s.d.xs.length) (cp)),(vI (s.st)),(vI (s.ix)),(vB s.cn),(vI (s.tr)),(vI (s.bg)),(vI (s.er))] 38 (0,0)):=⟨_,rfl⟩
 have f5:=push_new e4
 rw [← eb2] at f5
 have n6:b1 ≠ bo:=by have:=row_lt hbo; omega
 have x7:Ext h h3:=by rw [e4]; exact Ext.push _ _
 have o8:h.size≤b1:=by have:=(Chg.refl (O:=(fun q=>q=bo)) h).size; omega
 have f9:=x7 _ _ hbo
 have x10:=(Chg.refl (O:=(fun q=>q=bo)) h).trans (Chg.ext x7)
 have y11:=(Ext.refl h).trans x7
 obtain ⟨b12,eb13⟩:∃ zq,zq=h3.size:=⟨_,rfl⟩
 obtain ⟨h14,e15⟩:∃ zq,zq=h3.push (.cells #[(vS .empty),(vI 0),(vI 0),(Value.slice none 0 0),(vI 0),(vI 0),(vB false),(vI 0),(vI 0),(vI 0)] 38 (0,0)):=⟨_,rfl⟩
 have f17:=push_new e15
 rw [← eb13] at f17
 have n18:b12 ≠ bo:=by have:=row_lt f9; omega
 have x19:Ext h3 h14:=by rw [e15]; exact Ext.push _ _
 have o20:h.size≤b12:=by have:=x10.size; omega
 have f21:=x19 _ _ f9
 have f22:=x19 _ _ f5
 have x23:=x10.trans (Chg.ext x19)
 have y24:=y11.trans x19
 obtain ⟨_,h25,s26,w27,c28,rfl,o29,x30,b31⟩:=copys_ok h14 s _ _ (hl.keep fun b r hb q=>x23.same b r q (hbl b hb)) (by omega)
 have f33:=x30 _ _ f21
 have f34:=x30 _ _ f22
 have f35:=x30 _ _ f17
 have x36:=x23.trans (Chg.ext x30)
 have y37:=y24.trans x30
 have z38:h.size≤h14.size:=x23.size
 have n39:∀ zz,blk (Value.slice w27 (s.d.xs.length) (c28)) zz→¬ zz=bo:=fun zz hz ez=>by have:=b31 zz hz; have:=row_lt f21; omega
 have n40:∀ zz,blk (Value.slice w27 (s.d.xs.length) (c28)) zz→¬ zz=b12:=fun zz hz ez=>by have:=b31 zz hz; have:=row_lt f17; omega
 have o41:∀ zz,blk (Value.slice w27 (s.d.xs.length) (c28)) zz→h.size≤zz:=fun zz hz=>by have:=b31 zz hz; omega
 obtain ⟨h42,e43⟩:∃ zq,zq=h25.setIfInBounds bo (.cells #[(vS s.d.name),(vI (s.d.rt)),(vI (s.d.dl)),(Value.slice w27 (s.d.xs.length) (c28)),(vI (s.st)),(vI (s.ix)),(vB s.cn),(vI (s.tr)),(vI (s.bg)),(vI (s.er))] 38 (0,0)):=⟨_,rfl⟩
 have f44:=set_same e43 f33
 have f45:=set_other e43 f34 n6.symm
 have f46:=set_other e43 f35 n18.symm
 have p47:=o29.keep fun b r hb q=>(Chg.set e43).same b r q (n39 b hb)
 have x48:=x36.then (Chg.set e43) (fun b hb=>by subst hb; exact (.inl rfl))
 obtain ⟨h49,e50⟩:∃ zq,zq=h42.setIfInBounds b12 (.cells #[(vS s.d.name),(vI (s.d.rt)),(vI (s.d.dl)),(Value.slice sa (s.d.xs.length) (cp)),(vI (s.st)),(vI (s.ix)),(vB s.cn),(vI (s.tr)),(vI (s.bg)),(vI (s.er))] 38 (0,0)):=⟨_,rfl⟩
 have f51:=set_same e50 f46
 have f52:=set_other e50 f44 n18
 have p53:=p47.keep fun b r hb q=>(Chg.set e50).same b r q (n40 b hb)
 have x54:=x48.then (Chg.set e50) (fun b hb=>by subst hb; exact (.inr o20))
 exact hCall_ev [evA 0 0 eb2 e4,evA 0 1 eb13 e15,evLw 1 0 agg38 size38 f22,evF 1 1 s26,evUw 1 2 size38 f33 e43,evLw 2 0 agg38 size38 f45,evUw 2 1 size38 f46 e50] [evLw 0 0 agg38 size38 f51,evR (vI 0)] (vT #[(vA #[(vS s.d.name),(vI s.d.rt),(vI s.d.dl),(vL sa s.d.xs.length cp),(vI s.st),(vI s.ix),(vB s.cn),(vI s.tr),(vI s.bg),(vI s.er)]),(vI 0)]) h49 ⟨rfl,x54,w27,c28,f52,p53,o41⟩
set_option maxHeartbeats 4000000 in
theorem chget_ok_r (h:Heap) {O:Nat→Prop} {t mb:Nat} {ms:TabS} (T:TbRow 57 h O t ms mb) (ok:WfT (plT ms)) (k:Int) {bo:Nat} (hbo:h[bo]?=some (.cells #[(vS .empty),(vI 0),(vI 0),(Value.slice none 0 0),(vI 0),(vI 0),(vB false),(vI 0),(vI 0),(vI 0)] 38 (0,0))) (hbO:¬ O bo):WCall Tryz.prog 58 #[(vP t 0),(vI (k)),(Value.func (.func 73) #[] #[(vP bo 0)])] h (fun v h1=>v=.int .i64 (getE (plT ms) k)∧Chg (fun q=>q=bo) h h1∧(¬ getE (plT ms) k=0→h1[bo]?=some (.cells #[(vS .empty),(vI 0),(vI 0),(Value.slice none 0 0),(vI 0),(vI 0),(vB false),(vI 0),(vI 0),(vI 0)] 38 (0,0)))∧(getE (plT ms) k=0→∃ w cw,h1[bo]?=some (.cells #[(vS (getS (plT ms) k).d.name),(vI ((getS (plT ms) k).d.rt)),(vI ((getS (plT ms) k).d.dl)),(Value.slice w ((getS (plT ms) k).d.xs.length) (cw)),(vI ((getS (plT ms) k).st)),(vI ((getS (plT ms) k).ix)),(vB (getS (plT ms) k).cn),(vI ((getS (plT ms) k).tr)),(vI ((getS (plT ms) k).bg)),(vI ((getS (plT ms) k).er))] 38 (0,0))∧OwnAt h1 67 stepc (getS (plT ms) k).d.xs (.slice w (getS (plT ms) k).d.xs.length cw)∧∀ b,blk (.slice w (getS (plT ms) k).d.xs.length cw) b→h.size≤b)):=by
 have hT':TbAt 57 h O t (plT ms):=⟨ms,mb,rfl,T⟩
 refine wcall_by fun K hK=>?_
 refine wcall_at { tmps:=#[(vP t 0),(vI k),(Value.func (.func 73) #[] #[(vP bo 0)]),vZ,vZ,vZ,vZ,vZ,vZ,vZ,vZ,vZ,vZ,vZ,vZ,vZ,vZ,vZ,vZ,vZ,vZ,vZ,vZ,vZ,vZ,vZ,vZ,vZ,vZ,vZ,vZ,vZ,vZ,vZ,vZ,vZ,vZ,vZ,vZ,vZ,vZ,vZ],defers:=[] } (by kernel_rfl) ?_
 obtain ⟨_,_,sn1,rfl,rfl⟩:=made_ok h ((Chg.refl (O:=(fun q=>q=bo)) h).same _ _ T.row (fun (w:t=bo)=>hbO (w ▸ (T.foot t).2 (.inl rfl))))
 rcases hq2:findK ms (k) with _ | cc3
 ·obtain ⟨b4,eb5⟩:∃ zq,zq=h.size:=⟨_,rfl⟩
  obtain ⟨h6,e7⟩:∃ zq,zq=h.push (.cells #[(vS .empty),(vI 0),(vI 0),(Value.slice none 0 0),(vI 0),(vI 0),(vB false),(vI 0),(vI 0),(vI 0)] 38 (0,0)):=⟨_,rfl⟩
  have f9:=push_new e7
  rw [← eb5] at f9
  have n10:b4 ≠ bo:=by have:=row_lt hbo; omega
  have x11:Ext h h6:=by rw [e7]; exact Ext.push _ _
  have o12:h.size≤b4:=by have:=(Chg.refl (O:=(fun q=>q=bo)) h).size; omega
  have f13:=x11 _ _ hbo
  have x14:=(Chg.refl (O:=(fun q=>q=bo)) h).trans (Chg.ext x11)
  have y15:=(Ext.refl h).trans x11
  obtain ⟨h16,e17⟩:∃ zq,zq=h6.setIfInBounds b4 (.cells #[(vS .empty),(vI 0),(vI 0),(Value.slice none 0 0),(vI 0),(vI 0),(vB false),(vI 0),(vI 0),(vI 0)] 38 (0,0)):=⟨_,rfl⟩
  have f18:=set_other e17 f13 n10
  have x19:=x14.then (Chg.set e17) (fun b hb=>by subst hb; exact (.inr o12))
  have y20:=Ext.setNew y15 e17 o12
  refine wc_ev [evF 1 1 sn1,evC 4 3 0 agg55 ((Chg.refl (O:=(fun q=>q=bo)) h).same _ _ T.row (fun (w:t=bo)=>hbO (w ▸ (T.foot t).2 (.inl rfl)))),evV 4 5 (vT #[(vA #[(vS .empty),(vI 0),(vI 0),(vL none 0 0),(vI 0),(vI 0),(vB false),(vI 0),(vI 0),(vI 0)]),(vB false)]) (show lookupA Tryz.prog h 55 (Value.map (some mb)) (vI k) true=some (vT #[(vA #[(vS .empty),(vI 0),(vI 0),(vL none 0 0),(vI 0),(vI 0),(vB false),(vI 0),(vI 0),(vI 0)]),(vB false)]) from (T.map.keep fun b r hb q=>(Chg.refl (O:=(fun q=>q=bo)) h).same b r q ((fun b hb (w:b=bo)=>hbO (w ▸ (T.foot b).2 (.inr (.inl hb)))) b hb)).lookup_none mapty zero38 hq2 true),evA 4 9 eb5 e7,evUw 4 10 size38 f9 e17] .ret h16 [(6,(vI 0)),(11,(vP t 0)),(12,(vI 0)),(7,(vI 0)),(13,(vI 0)),(14,(vB false)),(17,(vP t 0)),(18,(vP t 0)),(19,(vP t 0)),(20,(Value.map (some mb))),(21,(vI k)),(22,(vT #[(vA #[(vS .empty),(vI 0),(vI 0),(vL none 0 0),(vI 0),(vI 0),(vB false),(vI 0),(vI 0),(vI 0)]),(vB false)])),(16,(vT #[(vA #[(vS .empty),(vI 0),(vI 0),(vL none 0 0),(vI 0),(vI 0),(vB false),(vI 0),(vI 0),(vI 0)]),(vB false)])),(23,(vA #[(vS .empty),(vI 0),(vI 0),(vL none 0 0),(vI 0),(vI 0),(vB false),(vI 0),(vI 0),(vI 0)])),(24,(vB false)),(8,(vP b4 0)),(9,(vB false)),(25,(vB false)),(26,(vB true)),(6,(vI 5))] ?_
  have gg:=(getE_none (plT_no hq2)).1
  exact end_ev [] (vI 5) (hK _ _ (⟨by rw [gg],x19,fun _=>f18,fun w=>absurd (gg.symm.trans w) (by decide)⟩))
 ·obtain ⟨khq21,ihq22⟩:=ok.at (plT_some hq2)
  obtain ⟨zhq4396d,_,_⟩:=chkS_zero khq21
  have:=defB_of zhq4396d
  obtain ⟨b23,eb24⟩:∃ zq,zq=h.size:=⟨_,rfl⟩
  obtain ⟨h25,e26⟩:∃ zq,zq=h.push (.cells #[(vS .empty),(vI 0),(vI 0),(Value.slice none 0 0),(vI 0),(vI 0),(vB false),(vI 0),(vI 0),(vI 0)] 38 (0,0)):=⟨_,rfl⟩
  have f27:=push_new e26
  rw [← eb24] at f27
  have n28:b23 ≠ bo:=by have:=row_lt hbo; omega
  have x29:Ext h h25:=by rw [e26]; exact Ext.push _ _
  have o30:h.size≤b23:=by have:=(Chg.refl (O:=(fun q=>q=bo)) h).size; omega
  have f31:=x29 _ _ hbo
  have x32:=(Chg.refl (O:=(fun q=>q=bo)) h).trans (Chg.ext x29)
  have y33:=(Ext.refl h).trans x29
  obtain ⟨h34,e35⟩:∃ zq,zq=h25.setIfInBounds b23 (.cells #[(vS cc3.1.d.name),(vI (cc3.1.d.rt)),(vI (cc3.1.d.dl)),(Value.slice cc3.2.1 (cc3.1.d.xs.length) (cc3.2.2)),(vI (cc3.1.st)),(vI (cc3.1.ix)),(vB cc3.1.cn),(vI (cc3.1.tr)),(vI (cc3.1.bg)),(vI (cc3.1.er))] 38 (0,0)):=⟨_,rfl⟩
  have f36:=set_same e35 f27
  have f37:=set_other e35 f31 n28
  have x38:=x32.then (Chg.set e35) (fun b hb=>by subst hb; exact (.inr o30))
  have y39:=Ext.setNew y33 e35 o30
  obtain ⟨_,h40,s41,rfl,c42,w43,c44,f45,o46,n47⟩:=get1_ok h34 cc3.1 _ _ ((T.lists.at hq2).keep fun b r hb q=>x38.same b r q ((fun b hb=>(fun b hb (w:b=bo)=>hbO (w ▸ (T.foot b).2 (.inr (.inr hb)))) b (lstF_at hq2 hb)) b hb)) (by omega) f37 (fun b hb=>(fun b hb (w:b=bo)=>hbO (w ▸ (T.foot b).2 (.inr (.inr hb)))) b (lstF_at hq2 hb))
  have x48:=x38.then c42 (fun b hb=>.inl hb)
  have f49:=c42.same _ _ f36 (fun hb=>(fun zz (hz:zz=bo) ez=>n28.symm (hz.symm.trans ez)) _ hb rfl)
  have z50:h.size≤h34.size:=x38.size
  have n51:∀ zz,blk (Value.slice w43 (cc3.1.d.xs.length) (c44)) zz→¬ zz=b23:=fun zz hz ez=>by have:=n47 zz hz; have:=row_lt f36; omega
  have o52:∀ zz,blk (Value.slice w43 (cc3.1.d.xs.length) (c44)) zz→h.size≤zz:=fun zz hz=>by have:=n47 zz hz; omega
  obtain ⟨h53,e54⟩:∃ zq,zq=h40.setIfInBounds b23 (.cells #[(vS cc3.1.d.name),(vI (cc3.1.d.rt)),(vI (cc3.1.d.dl)),(Value.slice cc3.2.1 (cc3.1.d.xs.length) (cc3.2.2)),(vI (cc3.1.st)),(vI (cc3.1.ix)),(vB cc3.1.cn),(vI (cc3.1.tr)),(vI (cc3.1.bg)),(vI (cc3.1.er))] 38 (0,0)):=⟨_,rfl⟩
  have f55:=set_same e54 f49
  have f56:=set_other e54 f45 n28
  have p57:=o46.keep fun b r hb q=>(Chg.set e54).same b r q (n51 b hb)
  have x58:=x48.then (Chg.set e54) (fun b hb=>by subst hb; exact (.inr o30))
  refine wc_ev [evF 1 1 sn1,evC 4 3 0 agg55 ((Chg.refl (O:=(fun q=>q=bo)) h).same _ _ T.row (fun (w:t=bo)=>hbO (w ▸ (T.foot t).2 (.inl rfl)))),evV 4 5 (vT #[(vA #[(vS cc3.1.d.name),(vI cc3.1.d.rt),(vI cc3.1.d.dl),(vL cc3.2.1 cc3.1.d.xs.length cc3.2.2),(vI cc3.1.st),(vI cc3.1.ix),(vB cc3.1.cn),(vI cc3.1.tr),(vI cc3.1.bg),(vI cc3.1.er)]),(vB true)]) (show lookupA Tryz.prog h 55 (Value.map (some mb)) (vI k) true=some (vT #[(vA #[(vS cc3.1.d.name),(vI cc3.1.d.rt),(vI cc3.1.d.dl),(vL cc3.2.1 cc3.1.d.xs.length cc3.2.2),(vI cc3.1.st),(vI cc3.1.ix),(vB cc3.1.cn),(vI cc3.1.tr),(vI cc3.1.bg),(vI cc3.1.er)]),(vB true)]) from (T.map.keep fun b r hb q=>(Chg.refl (O:=(fun q=>q=bo)) h).same b r q ((fun b hb (w:b=bo)=>hbO (w ▸ (T.foot b).2 (.inr (.inl hb)))) b hb)).lookup_some mapty hq2 true),evA 4 9 eb24 e26,evUw 4 10 size38 f27 e35,evLw 7 1 agg38 size38 f36,evF 7 2 s41,evUw 7 6 size38 f49 e54,evC 9 3 0 agg55 (x58.same _ _ T.row (fun (w:t=bo)=>hbO (w ▸ (T.foot t).2 (.inl rfl)))),evLw 9 5 agg38 size38 f55,evH 9 6 undef h53 (show (mapUpdateA Tryz.prog h53 55 (Value.map (some mb)) (vI k) (vA #[(vS cc3.1.d.name),(vI cc3.1.d.rt),(vI cc3.1.d.dl),(vL cc3.2.1 cc3.1.d.xs.length cc3.2.2),(vI cc3.1.st),(vI cc3.1.ix),(vB cc3.1.cn),(vI cc3.1.tr),(vI cc3.1.bg),(vI cc3.1.er)])=some h53∧(undef:Value)=undef) from ⟨(T.map.keep fun b r hb q=>x58.same b r q ((fun b hb (w:b=bo)=>hbO (w ▸ (T.foot b).2 (.inr (.inl hb)))) b hb)).update_same mapty hq2,rfl⟩)] .ret h53 [(6,(vI 0)),(11,(vP t 0)),(12,(vI 0)),(7,(vI 0)),(13,(vI 0)),(14,(vB false)),(17,(vP t 0)),(18,(vP t 0)),(19,(vP t 0)),(20,(Value.map (some mb))),(21,(vI k)),(22,(vT #[(vA #[(vS cc3.1.d.name),(vI cc3.1.d.rt),(vI cc3.1.d.dl),(vL cc3.2.1 cc3.1.d.xs.length cc3.2.2),(vI cc3.1.st),(vI cc3.1.ix),(vB cc3.1.cn),(vI cc3.1.tr),(vI cc3.1.bg),(vI cc3.1.er)]),(vB true)])),(16,(vT #[(vA #[(vS cc3.1.d.name),(vI cc3.1.d.rt),(vI cc3.1.d.dl),(vL cc3.2.1 cc3.1.d.xs.length cc3.2.2),(vI cc3.1.st),(vI cc3.1.ix),(vB cc3.1.cn),(vI cc3.1.tr),(vI cc3.1.bg),(vI cc3.1.er)]),(vB true)])),(23,(vA #[(vS cc3.1.d.name),(vI cc3.1.d.rt),(vI cc3.1.d.dl),(vL cc3.2.1 cc3.1.d.xs.length cc3.2.2),(vI cc3.1.st),(vI cc3.1.ix),(vB cc3.1.cn),(vI cc3.1.tr),(vI cc3.1.bg),(vI cc3.1.er)])),(24,(vB true)),(8,(vP b23 0)),(9,(vB true)),(25,(vB true)),(26,(vB false)),(28,(Value.func (.func 73) #[] #[(vP bo 0)])),(29,(vA #[(vS cc3.1.d.name),(vI cc3.1.d.rt),(vI cc3.1.d.dl),(vL cc3.2.1 cc3.1.d.xs.length cc3.2.2),(vI cc3.1.st),(vI cc3.1.ix),(vB cc3.1.cn),(vI cc3.1.tr),(vI cc3.1.bg),(vI cc3.1.er)])),(30,(vT #[(vA #[(vS cc3.1.d.name),(vI cc3.1.d.rt),(vI cc3.1.d.dl),(vL cc3.2.1 cc3.1.d.xs.length cc3.2.2),(vI cc3.1.st),(vI cc3.1.ix),(vB cc3.1.cn),(vI cc3.1.tr),(vI cc3.1.bg),(vI cc3.1.er)]),(vI 0)])),(27,(vT #[(vA #[(vS cc3.1.d.name),(vI cc3.1.d.rt),(vI cc3.1.d.dl),(vL cc3.2.1 cc3.1.d.xs.length cc3.2.2),(vI cc3.1.st),(vI cc3.1.ix),(vB cc3.1.cn),(vI cc3.1.tr),(vI cc3.1.bg),(vI cc3.1.er)]),(vI 0)])),(31,(vA #[(vS cc3.1.d.name),(vI cc3.1.d.rt),(vI cc3.1.d.dl),(vL cc3.2.1 cc3.1.d.xs.length cc3.2.2),(vI cc3.1.st),(vI cc3.1.ix),(vB cc3.1.cn),(vI cc3.1.tr),(vI cc3.1.bg),(vI cc3.1.er)])),(32,(vI 0)),(10,(vI 0)),(33,(vI 0)),(34,(vB true)),(35,(vP t 0)),(36,(vP t 0)),(37,(vP t 0)),(38,(Value.map (some mb))),(39,(vI k)),(40,(vA #[(vS cc3.1.d.name),(vI cc3.1.d.rt),(vI cc3.1.d.dl),(vL cc3.2.1 cc3.1.d.xs.length cc3.2.2),(vI cc3.1.st),(vI cc3.1.ix),(vB cc3.1.cn),(vI cc3.1.tr),(vI cc3.1.bg),(vI cc3.1.er)])),(41,(vI 0)),(6,(vI 0))] ?_
  obtain ⟨g1,g2⟩:=getE_some (plT_some hq2)
  exact end_ev [] (vI 0) (hK _ _ (⟨by rw [g1],x58,fun w=>absurd g1 w,fun _=>by rw [g2]; exact ⟨w43,c44,f56,p57,o52⟩⟩))
set_option maxHeartbeats 4000000 in
theorem tget_ok_r (h:Heap) {O:Nat→Prop} {t mb:Nat} {ms:TabS} (T:TbRow 57 h O t ms mb) (ok:WfT (plT ms)) (k:Int):WCall Tryz.prog 27 #[(vP t 0),(vI (k))] h (fun v h1=>(¬ getE (plT ms) k=0→v=.tuple #[(Value.agg #[(vS .empty),(vI 0),(vI 0),(Value.slice none 0 0),(vI 0),(vI 0),(vB false),(vI 0),(vI 0),(vI 0)]),.int .i64 (getE (plT ms) k)])∧(getE (plT ms) k=0→∃ w cw,v=.tuple #[(Value.agg #[(vS (getS (plT ms) k).d.name),(vI ((getS (plT ms) k).d.rt)),(vI ((getS (plT ms) k).d.dl)),(Value.slice w ((getS (plT ms) k).d.xs.length) (cw)),(vI ((getS (plT ms) k).st)),(vI ((getS (plT ms) k).ix)),(vB (getS (plT ms) k).cn),(vI ((getS (plT ms) k).tr)),(vI ((getS (plT ms) k).bg)),(vI ((getS (plT ms) k).er))]),.int .i64 0]∧OwnAt h1 67 stepc (getS (plT ms) k).d.xs (.slice w (getS (plT ms) k).d.xs.length cw)∧∀ b,blk (.slice w (getS (plT ms) k).d.xs.length cw) b→h.size≤b)∧Ext h h1):=by
 have hT':TbAt 57 h O t (plT ms):=⟨ms,mb,rfl,T⟩
 refine wcall_by fun K hK=>?_
 refine wcall_at { tmps:=#[(vP t 0),(vI k),vZ,vZ,vZ,vZ,vZ,vZ,vZ,vZ,vZ,vZ,vZ,vZ],defers:=[] } (by kernel_rfl) ?_
 obtain ⟨b1,eb2⟩:∃ zq,zq=h.size:=⟨_,rfl⟩
 obtain ⟨h3,e4⟩:∃ zq,zq=h.push (.cells #[(vS .empty),(vI 0),(vI 0),(Value.slice none 0 0),(vI 0),(vI 0),(vB false),(vI 0),(vI 0),(vI 0)] 38 (0,0)):=⟨_,rfl⟩
 have f5:=push_new e4
 rw [← eb2] at f5
 have x6:Ext h h3:=by rw [e4]; exact Ext.push _ _
 have o7:h.size≤b1:=by have:=(Ext.refl h).size; omega
 have x8:=(Ext.refl h).trans x6
 obtain ⟨b9,eb10⟩:∃ zq,zq=h3.size:=⟨_,rfl⟩
 obtain ⟨h11,e12⟩:∃ zq,zq=h3.push (.cells #[(vS .empty),(vI 0),(vI 0),(Value.slice none 0 0),(vI 0),(vI 0),(vB false),(vI 0),(vI 0),(vI 0)] 38 (0,0)):=⟨_,rfl⟩
 have f13:=push_new e12
 rw [← eb10] at f13
 have n14:b9 ≠ b1:=by have:=row_lt f5; omega
 have x15:Ext h3 h11:=by rw [e12]; exact Ext.push _ _
 have o16:h.size≤b9:=by have:=x8.size; omega
 have f17:=x15 _ _ f5
 have x18:=x8.trans x15
 obtain ⟨_,h19,s20,rfl,c21,p22,p23⟩:=chget_ok_r h11 (T.keep fun b r _ q=>x18 b r q) ok (k) f13 (fun w=>by have:=hT'.blk_lt w; have:=o16; omega)
 have z24:h.size≤h11.size:=x18.size
 have x25:Ext h _:=(Chg.then (O:=fun _=>False) (Chg.ext x18) c21 (fun b hb=>.inr ((fun b (hb:b=b9)=>by have:=o16; omega) b hb))).toExt'
 have f26:=c21.same _ _ f17 (fun hb=>(fun zz (hz:zz=b9) ez=>n14 (hz.symm.trans ez)) _ hb rfl)
 by_cases c27:((getE (plT ms) (k)):Int)=0
 ·obtain ⟨w28,c29,f30,o31,n32⟩:=p23 c27
  have z33:h.size≤h11.size:=x18.size
  have n34:∀ zz,blk (Value.slice w28 ((getS (plT ms) (k)).d.xs.length) (c29)) zz→¬ zz=b1:=fun zz hz ez=>by have:=n32 zz hz; have:=row_lt f17; omega
  have o35:∀ zz,blk (Value.slice w28 ((getS (plT ms) (k)).d.xs.length) (c29)) zz→h.size≤zz:=fun zz hz=>by have:=n32 zz hz; omega
  obtain ⟨h36,e37⟩:∃ zq,zq=h19.setIfInBounds b1 (.cells #[(vS (getS (plT ms) (k)).d.name),(vI ((getS (plT ms) (k)).d.rt)),(vI ((getS (plT ms) (k)).d.dl)),(Value.slice w28 ((getS (plT ms) (k)).d.xs.length) (c29)),(vI ((getS (plT ms) (k)).st)),(vI ((getS (plT ms) (k)).ix)),(vB (getS (plT ms) (k)).cn),(vI ((getS (plT ms) (k)).tr)),(vI ((getS (plT ms) (k)).bg)),(vI ((getS (plT ms) (k)).er))] 38 (0,0)):=⟨_,rfl⟩
  have f38:=set_same e37 f26
  have p39:=o31.keep fun b r hb q=>(Chg.set e37).same b r q (n34 b hb)
  have x40:=Ext.setNew x25 e37 o7
  refine wc_ev [evA 0 0 eb2 e4,evA 1 0 eb10 e12,evFi 2 3 c27 s20,evLw 3 0 agg38 size38 f30,evUw 3 2 size38 f26 e37] .ret h36 [(4,(vP b1 0)),(5,(vI 0)),(6,(vP b9 0)),(8,(vP t 0)),(9,(vI k)),(10,(Value.func (.func 73) #[] #[(vP b9 0)])),(11,(vI 0)),(7,(vI 0)),(12,(vA #[(vS (getS (plT ms) (k)).d.name),(vI ((getS (plT ms) (k)).d.rt)),(vI ((getS (plT ms) (k)).d.dl)),(Value.slice w28 ((getS (plT ms) (k)).d.xs.length) (c29)),(vI ((getS (plT ms) (k)).st)),(vI ((getS (plT ms) (k)).ix)),(vB (getS (plT ms) (k)).cn),(vI ((getS (plT ms) (k)).tr)),(vI ((getS (plT ms) (k)).bg)),(vI ((getS (plT ms) (k)).er))])),(13,(vI 0)),(5,(vI 0))] ?_
  exact end_ev [evLw 0 0 agg38 size38 f38,evR (vI 0)] (vT #[(vA #[(vS (getS (plT ms) (k)).d.name),(vI ((getS (plT ms) (k)).d.rt)),(vI ((getS (plT ms) (k)).d.dl)),(Value.slice w28 ((getS (plT ms) (k)).d.xs.length) (c29)),(vI ((getS (plT ms) (k)).st)),(vI ((getS (plT ms) (k)).ix)),(vB (getS (plT ms) (k)).cn),(vI ((getS (plT ms) (k)).tr)),(vI ((getS (plT ms) (k)).bg)),(vI ((getS (plT ms) (k)).er))]),(vI 0)]) (hK _ _ (⟨fun w=>absurd c27 w,fun _=>⟨w28,c29,rfl,p39,o35⟩,x40⟩))
 ·obtain ⟨h41,e42⟩:∃ zq,zq=h19.setIfInBounds b1 (.cells #[(vS .empty),(vI 0),(vI 0),(Value.slice none 0 0),(vI 0),(vI 0),(vB false),(vI 0),(vI 0),(vI 0)] 38 (0,0)):=⟨_,rfl⟩
  have f43:=set_same e42 f26
  have x44:=Ext.setNew x25 e42 o7
  refine wc_ev [evA 0 0 eb2 e4,evA 1 0 eb10 e12,evF 2 3 s20,evLw 3 0 agg38 size38 (p22 c27),evUw 3 2 size38 f26 e42] .ret h41 [(4,(vP b1 0)),(5,(vI 0)),(6,(vP b9 0)),(8,(vP t 0)),(9,(vI k)),(10,(Value.func (.func 73) #[] #[(vP b9 0)])),(11,(vI (getE (plT ms) (k)))),(7,(vI (getE (plT ms) (k)))),(12,(vA #[(vS .empty),(vI 0),(vI 0),(vL none 0 0),(vI 0),(vI 0),(vB false),(vI 0),(vI 0),(vI 0)])),(13,(vI (getE (plT ms) (k)))),(5,(vI (getE (plT ms) (k))))] ?_
  exact end_ev [evLw 0 0 agg38 size38 f43,evR (vI (getE (plT ms) (k)))] (vT #[(vA #[(vS .empty),(vI 0),(vI 0),(vL none 0 0),(vI 0),(vI 0),(vB false),(vI 0),(vI 0),(vI 0)]),(vI (getE (plT ms) (k)))]) (hK _ _ (⟨fun _=>rfl,fun w=>absurd w c27,x44⟩))
theorem tget_ok (h:Heap) {O:Nat→Prop} {t:Nat} {m:Tab} (hT:TbAt 57 h O t m) (ok:WfT m) (k:Int):WCall Tryz.prog 27 #[(vP t 0),(vI (k))] h (fun v h1=>(¬ getE m k=0→v=.tuple #[(Value.agg #[(vS .empty),(vI 0),(vI 0),(Value.slice none 0 0),(vI 0),(vI 0),(vB false),(vI 0),(vI 0),(vI 0)]),.int .i64 (getE m k)])∧(getE m k=0→∃ w cw,v=.tuple #[(Value.agg #[(vS (getS m k).d.name),(vI ((getS m k).d.rt)),(vI ((getS m k).d.dl)),(Value.slice w ((getS m k).d.xs.length) (cw)),(vI ((getS m k).st)),(vI ((getS m k).ix)),(vB (getS m k).cn),(vI ((getS m k).tr)),(vI ((getS m k).bg)),(vI ((getS m k).er))]),.int .i64 0]∧OwnAt h1 67 stepc (getS m k).d.xs (.slice w (getS m k).d.xs.length cw)∧∀ b,blk (.slice w (getS m k).d.xs.length cw) b→h.size≤b)∧Ext h h1):=by
 obtain ⟨ms,mb,rfl,T⟩:=hT
 exact tget_ok_r h T ok k
def effc (x:EffM):Array Value:=#[.int .i64 x.sg,.int .i64 x.sp,.int .i64 x.ph]
theorem effc_size (x:EffM):(effc x).size=3:=rfl
theorem take_next {α:Type} {l:List α} {k:Nat} {y:α} (h:l[k]?=some y):l.take (k + 1)=l.take k++[y]:=by rw [List.take_add_one,h]; rfl
theorem plT_mem {ms:TabS} {p:Int × SagA} (h:p ∈ ms):(p.1,p.2.1) ∈ plT ms:=List.mem_map_of_mem (f:=fun p:Int × SagA=>(p.1,p.2.1)) h
theorem idsL_len (m:Tab):(idsL m).length=m.length:=List.length_map ..
theorem ids_at {ms:TabS} {j:Nat} {k:Int} (h:(idsL (plT ms))[j]?=some k):∃ c,ms[j]?=some (k,c):=by
 rw [← plT_keys,List.getElem?_map] at h
 cases q:ms[j]? with
 | none=>rw [q] at h; cases h
 | some p=>rw [q] at h; simp only [Option.map_some,Option.some.injEq] at h; exact ⟨p.2,by rw [← h]⟩
theorem plT_ix {ms:TabS} {j:Nat} {k:Int} {c:SagA} (h:ms[j]?=some (k,c)):(plT ms)[j]?=some (k,c.1):=by unfold plT; rw [List.getElem?_map,h]; rfl
theorem opn_yes {m:Tab} {j:Nat} {p:Int × SagaM} (h:m[j]?=some p) (ho:p.2.st < 4):(opnT m)[(opnT (m.take j)).length]?=some p∧(opnT (m.take (j + 1))).length=(opnT (m.take j)).length + 1:=by
 have hj:=(List.getElem?_eq_some_iff.1 h).1
 have e1:opnT (m.take (j + 1))=opnT (m.take j)++[p]:=by
  unfold opnT; rw [take_next h,List.filter_append,List.filter_cons_of_pos (by simpa using ho)]; rfl
 have e2:opnT m=opnT (m.take (j + 1))++opnT (m.drop (j + 1)):=by unfold opnT; rw [← List.filter_append,List.take_append_drop]
 refine ⟨?_,by rw [e1,List.length_append]; rfl⟩
 rw [e2,e1]
 simp
theorem opn_no {m:Tab} {j:Nat} {p:Int × SagaM} (h:m[j]?=some p) (ho:¬ p.2.st < 4):(opnT (m.take (j + 1))).length=(opnT (m.take j)).length:=by
 unfold opnT; rw [take_next h,List.filter_append,List.filter_cons_of_neg (by simpa using ho)]; simp
theorem opn_len (m:Tab):(opnT m).length≤m.length:=List.length_filter_le _ _
theorem opn_take {α:Type} (f:Int × SagaM→α) (m:Tab) (k:Nat):(((opnT m).take k).map f).length≤m.length:=by
 rw [List.length_map,List.length_take]; have:=opn_len m; omega
set_option maxHeartbeats 4000000 in
theorem keys_fn (h:Heap) (r:Nat):WCall Tryz.prog 76 #[(Value.map (some r))] h (fun v h1=>∃ b,v=.func (.func 102) #[] #[.pointer (some ⟨b,0,none⟩)]∧h1[b]?=some (.cells #[.map (some r)] 55 (0,0))∧Ext h h1∧h.size≤b):=by
 obtain ⟨b1,eb2⟩:∃ zq,zq=h.size:=⟨_,rfl⟩
 obtain ⟨h3,e4⟩:∃ zq,zq=h.push (.cells #[(Value.map (some r))] 55 (0,0)):=⟨_,rfl⟩
 have f5:=push_new e4
 rw [← eb2] at f5
 have x6:Ext h h3:=by rw [e4]; exact Ext.push _ _
 have o7:h.size≤b1:=by have:=(Ext.refl h).size; omega
 have x8:=(Ext.refl h).trans x6
 exact hCall_ev [evA 0 0 eb2 e4] [] (Value.func (.func 102) #[] #[(vP b1 0)]) h3 ⟨_,rfl,f5,x8,o7⟩
set_option maxHeartbeats 4000000 in
theorem ids_ok_r (h:Heap) {O:Nat→Prop} {t mb:Nat} {ms:TabS} (T:TbRow 57 h O t ms mb) (ok:WfT (plT ms)):WCall Tryz.prog 30 #[(vP t 0)] h (fun v h1=>∃ oa oc,v=.slice oa (idsL (plT ms)).length oc∧OwnAt h1 3 zc (idsL (plT ms)) v∧Ext h h1∧∀ b,blk v b→h.size≤b):=by
 have hT':TbAt 57 h O t (plT ms):=⟨ms,mb,rfl,T⟩
 refine wcall_by fun K hK=>?_
 refine wcall_at { tmps:=#[(vP t 0),vZ,vZ,vZ,vZ,vZ,vZ,vZ,vZ,vZ,vZ,vZ],defers:=[] } (by kernel_rfl) ?_
 obtain ⟨_,_,sn1,rfl,rfl⟩:=made_ok h T.row
 obtain ⟨_,h2,s3,b4,rfl,f5,x6,o7⟩:=keys_fn h mb
 have oo8:h.size≤b4:=by have:=(Ext.refl h).size; omega
 have x9:=(Ext.refl h).trans x6
 obtain ⟨w10,h11,s12,o13,x14,n15⟩:=MapAt.sortedI (k:=3) (by kernel_rfl) int_tsz sorted_calls f5 (T.map.keep fun b r _ q=>x9 b r q) (by rw [plT_keys]; exact ok.ord) (fun p hp=>by have:=ok.ids _ (plT_mem hp); simp only [] at this; omega) (by have:=ok.few; rw [plT_len] at this; omega)
 rw [plT_keys] at o13
 obtain ⟨a16,c17,rfl⟩:=(o13.slice zc_size).len
 have o18:OwnAt h11 3 zc (idsL (plT ms)) (.slice a16 (idsL (plT ms)).length c17):=o13
 have x19:=x9.trans x14
 have z20:h.size≤h2.size:=x9.size
 have o21:∀ zz,blk (Value.slice a16 ((idsL (plT ms)).length) (c17)) zz→h.size≤zz:=fun zz hz=>by have:=n15 zz hz; omega
 refine wc_ev [evF 1 1 sn1,evC 3 3 0 agg55 T.row,evF 3 4 s3,evF 3 5 s12] .ret h11 [(2,(vL none 0 0)),(3,(vP t 0)),(4,(vI 0)),(5,(vB false)),(6,(vP t 0)),(7,(vP t 0)),(8,(vP t 0)),(9,(Value.map (some mb))),(10,(Value.func (.func 102) #[] #[(vP b4 0)])),(11,(Value.slice a16 ((idsL (plT ms)).length) (c17))),(2,(Value.slice a16 ((idsL (plT ms)).length) (c17)))] ?_
 exact end_ev [] (Value.slice a16 ((idsL (plT ms)).length) (c17)) (hK _ _ (⟨_,_,rfl,o18,x19,o21⟩))
theorem ids_ok (h:Heap) {O:Nat→Prop} {t:Nat} {m:Tab} (hT:TbAt 57 h O t m) (ok:WfT m) :WCall Tryz.prog 30 #[(vP t 0)] h (fun v h1=>∃ oa oc,v=.slice oa (idsL m).length oc∧OwnAt h1 3 zc (idsL m) v∧Ext h h1∧∀ b,blk v b→h.size≤b):=by
 obtain ⟨ms,mb,rfl,T⟩:=hT
 exact ids_ok_r h T ok 
set_option maxHeartbeats 4000000 in
theorem len_ok_r (h:Heap) {O:Nat→Prop} {t mb:Nat} {ms:TabS} (T:TbRow 57 h O t ms mb) (ok:WfT (plT ms)):WCall Tryz.prog 33 #[(vP t 0)] h (fun v h1=>v=.int .i64 (((plT ms).length:Nat):Int)∧Ext h h1):=by
 have hT':TbAt 57 h O t (plT ms):=⟨ms,mb,rfl,T⟩
 refine wcall_by fun K hK=>?_
 refine wcall_at { tmps:=#[(vP t 0),vZ,vZ,vZ,vZ,vZ],defers:=[] } (by kernel_rfl) ?_
 obtain ⟨_,h2,s3,w4,c5,rfl,o6,x7,n8⟩:=ids_ok_r h (T.keep fun b r _ q=>(Ext.refl h) b r q) ok
 have x9:=(Ext.refl h).trans x7
 have z10:h.size≤h.size:=(Ext.refl h).size
 have o11:∀ zz,blk (Value.slice w4 ((idsL (plT ms)).length) (c5)) zz→h.size≤zz:=fun zz hz=>by have:=n8 zz hz; omega
 refine wc_ev [evF 1 1 s3] .ret h2 [(2,(vI 0)),(3,(vP t 0)),(4,(Value.slice w4 ((idsL (plT ms)).length) (c5))),(5,(vI (((idsL (plT ms)).length:Nat)))),(2,(vI (((idsL (plT ms)).length:Nat))))] ?_
 exact end_ev [] (vI (((idsL (plT ms)).length:Nat))) (hK _ _ (⟨by rw [idsL_len],x9⟩))
theorem len_ok (h:Heap) {O:Nat→Prop} {t:Nat} {m:Tab} (hT:TbAt 57 h O t m) (ok:WfT m) :WCall Tryz.prog 33 #[(vP t 0)] h (fun v h1=>v=.int .i64 ((m.length:Nat):Int)∧Ext h h1):=by
 obtain ⟨ms,mb,rfl,T⟩:=hT
 exact len_ok_r h T ok 
set_option maxHeartbeats 4000000 in
theorem open_fn (h:Heap) (t:Nat):WCall Tryz.prog 77 #[(vP t 0)] h (fun v h1=>∃ b,v=.func (.func 103) #[] #[.pointer (some ⟨b,0,none⟩)]∧h1[b]?=some (.cells #[.pointer (some ⟨t,0,none⟩)] 25 (0,0))∧Ext h h1∧h.size≤b):=by
 obtain ⟨b1,eb2⟩:∃ zq,zq=h.size:=⟨_,rfl⟩
 obtain ⟨h3,e4⟩:∃ zq,zq=h.push (.cells #[(vP t 0)] 25 (0,0)):=⟨_,rfl⟩
 have f5:=push_new e4
 rw [← eb2] at f5
 have x6:Ext h h3:=by rw [e4]; exact Ext.push _ _
 have o7:h.size≤b1:=by have:=(Ext.refl h).size; omega
 have x8:=(Ext.refl h).trans x6
 exact hCall_ev [evA 0 0 eb2 e4] [] (Value.func (.func 103) #[] #[(vP b1 0)]) h3 ⟨_,rfl,f5,x8,o7⟩
end C29
