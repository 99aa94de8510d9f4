/- An abstract machine for Go, part 25: code run in symbols by reckoning; what cannot be reckoned is hinted, and asked. -/
import Derived.Test.YtjkcadbblgefdaaGreatDoorAmx
import Derived.KernelRfl
namespace Go.AM

/-- The hints: the outcome of an operation, by its region and its place there; which way a branch goes, by the slot of its condition; which regions that draw have what order. -/
structure Hints where
  out:Nat→Nat→Option (Value × Option Heap)
  bit:Tmp→Option Bool
  res:Option (List Value):=none

/-- What is asked of a hinted operation. -/
def obl (P:Program) (ev:Operand→Value) (o:Oper) (h:Heap) (v:Value) (h1:Heap):Prop :=
  match o.op with
  | .load t a=>loadT P h t (ev a)=some v∧h1=h
  | .store t a x=>storeT P h t (ev a) (ev x)=some h1∧v=undef
  | .indexAddr t x i=>indexAddrA P t (ev x) (ev i)=some v∧h1=h
  | .index t x i=>indexA P t (ev x) (ev i)=some v∧h1=h
  | .lookup t x i ok=>lookupA P h t (ev x) (ev i) ok=some v∧h1=h
  | .slice t x lo hi mx=>sliceA P h t (ev x) (lo.map ev) (hi.map ev) (mx.map ev)=some v∧h1=h
  | .mapUpdate t m k x=>mapUpdateA P h t (ev m) (ev k) (ev x)=some h1∧v=undef
  | .mapEntry t m k=>mapEntryA P h t (ev m) (ev k)=some (v,h1)
  | .entryStore _ m s x=>entryStoreA h (ev m) (ev s) (ev x)=some h1∧v=undef
  | .next it s=>nextA h (ev it) s=some (v,h1)
  | .binOp op t x y _=>binA P op t (ev x) (ev y)=some v∧h1=h
  | .call { callee:=.builtin .append,args,argTypes }=>appendA P h argTypes (args.map ev)=some (v,h1)
  | .call { callee:=.builtin .delete,args,argTypes }=>match argTypes[0]?,(args.map ev)[0]?,(args.map ev)[1]? with
    | some t,some x,some k=>deleteA P h t x k=some h1∧v=.tuple #[]
    | _,_,_=>False
  | .call { callee:=.value f,args,.. }=>match ev f with
    | .func (.func k) first captured=>SoundCall P k (first++args.map ev++captured) h v h1
    | .func (.yield l) first _=>SoundYield P l (first++args.map ev) h v h1
    | _=>False
  | _=>match amOp P ev o h with
    | some (v',h')=>v=v'∧h1=h'
    | none=>False

/-- Operations that only give a value. -/
def isAsk:Op→Bool
  | .load .. | .indexAddr .. | .index .. | .lookup .. | .slice .. | .binOp ..=>true
  | .call { callee:=.builtin .len,.. }=>true
  | .call { callee:=.value _,.. }=>true
  | _=>false
/-- What is asked of the value that such an operation gives. -/
def askV (P:Program) (ev:Operand→Value) (o:Oper) (h:Heap) (v:Value):Prop :=
  match o.op with
  | .load t a=>loadT P h t (ev a)=some v
  | .indexAddr t x i=>indexAddrA P t (ev x) (ev i)=some v
  | .index t x i=>indexA P t (ev x) (ev i)=some v
  | .lookup t x i ok=>lookupA P h t (ev x) (ev i) ok=some v
  | .slice t x lo hi mx=>sliceA P h t (ev x) (lo.map ev) (hi.map ev) (mx.map ev)=some v
  | .binOp op t x y _=>binA P op t (ev x) (ev y)=some v
  | .call { callee:=.builtin .len,args,argTypes }=>match argTypes[0]?,(args.map ev)[0]? with
    | some t,some x=>lenA P h t x=some v
    | _,_=>False
  | .call { callee:=.value f,args,.. }=>match ev f with
    | .func (.func k) first cap=>match first.isEmpty && cap.isEmpty && isAdd64 P k with
      | true=>add64A (args.map ev).toList=some v
      | false=>False
    | _=>False
  | _=>False
theorem ask_am {P:Program} {ev:Operand→Value} {o:Oper} {h:Heap} {v:Value} (ha:askV P ev o h v):amOp P ev o h=some (v,h):=by
  unfold askV at ha
  split at ha
  · rename_i hop; simp [amOp,hop,withH,ha]
  · rename_i hop; simp [amOp,hop,withH,ha]
  · rename_i hop; simp [amOp,hop,withH,ha]
  · rename_i hop; simp [amOp,hop,withH,ha]
  · rename_i hop; simp [amOp,hop,withH,ha]
  · rename_i hop; simp [amOp,hop,withH,ha]
  · rename_i args ts hop
    split at ha
    · rename_i t x h1 h2; simp only [amOp,hop,builtinA,h1,h2,withH,ha,Option.map_some]
    · cases ha
  · rename_i f args ts hop
    split at ha
    · rename_i k first cap hf
      split at ha
      · rename_i hb; simp only [amOp,hop,hf,hb,if_true,withH,ha,Option.map_some]
      · cases ha
    · cases ha
  · cases ha

/-- Whether what is called has a body. -/
def hasBody (P:Program) (ev:Operand→Value) (o:Oper):Bool :=
  match o.op with
  | .call { callee:=.value f,.. }=>match ev f with
    | .func (.func k) _ _=>match P.funcs[k]? with
      | some fn=>!(fn.name == "runtime.NumGoroutine") && fn.body.isSome
      | none=>false
    | _=>true
  | _=>true

theorem obl_step {P:Program} {ev:Operand→Value} {o:Oper} {h h1:Heap} {v:Value} (hok:operOk o=true) (hb:hasBody P ev o=true) (ho:obl P ev o h v h1):stepRel P (SoundCall P) (SoundYield P) ev o h v h1:=by
  refine ⟨hok,?_⟩
  unfold obl at ho
  split at ho
  · rename_i hop; obtain ⟨q,rfl⟩:=ho; exact .inl (by simp [amOp,hop,withH,q])
  · rename_i hop; obtain ⟨q,rfl⟩:=ho; exact .inl (by simp [amOp,hop,q])
  · rename_i hop; obtain ⟨q,rfl⟩:=ho; exact .inl (by simp [amOp,hop,withH,q])
  · rename_i hop; obtain ⟨q,rfl⟩:=ho; exact .inl (by simp [amOp,hop,withH,q])
  · rename_i hop; obtain ⟨q,rfl⟩:=ho; exact .inl (by simp [amOp,hop,withH,q])
  · rename_i hop; obtain ⟨q,rfl⟩:=ho; exact .inl (by simp [amOp,hop,withH,q])
  · rename_i hop; obtain ⟨q,rfl⟩:=ho; exact .inl (by simp [amOp,hop,q])
  · rename_i hop; exact .inl (by simp [amOp,hop,ho])
  · rename_i hop; obtain ⟨q,rfl⟩:=ho; exact .inl (by simp [amOp,hop,q])
  · rename_i hop; exact .inl (by simp [amOp,hop,ho])
  · rename_i hop; obtain ⟨q,rfl⟩:=ho; exact .inl (by simp [amOp,hop,withH,q])
  · rename_i hop; exact .inl (by simp [amOp,hop,builtinA,ho])
  · rename_i args ts hop
    split at ho
    · rename_i t x key e1 e2 e3; obtain ⟨q,rfl⟩:=ho; exact .inl (by simp only [amOp,hop,builtinA,e1,e2,e3,q,Option.map_some])
    · cases ho
  · rename_i f args ts hop
    unfold hasBody at hb
    rw [hop] at hb
    simp only at hb
    split at ho
    · rename_i k first captured hf
      rw [hf] at hb
      simp only at hb
      split at hb
      · rename_i fn hfn
        simp only [Bool.and_eq_true,Bool.not_eq_true'] at hb
        exact .inr (.inl ⟨k,_,fn,by simp [calleeOf,hop,hf],hfn,hb.1,hb.2,ho⟩)
      · cases hb
    · rename_i l first captured hf
      exact .inr (.inr ⟨l,_,by simp [calleeOf,hop,hf],ho⟩)
    · cases ho
  · split at ho
    · rename_i hq; obtain ⟨rfl,rfl⟩:=ho; exact .inl hq
    · cases ho

/-- One operation, hinted or reckoned. -/
def hOp (P:Program) (T:Hints) (r i:Nat) (ev:Operand→Value) (o:Oper) (h:Heap) (K:Value→Heap→Prop):Prop :=
  match operOk o with
  | true=>match T.out r i with
    | some (v,some h1)=>match hasBody P ev o with
      | true=>obl P ev o h v h1∧K v h1
      | false=>False
    | some (v,none)=>match isAsk o.op with
      | true=>askV P ev o h v∧K v h
      | false=>match amOp P ev o h with
        | some (v',h1)=>v=v'∧K v h1
        | none=>False
    | none=>match amOp P ev o h with
      | some (v,h1)=>K v h1
      | none=>False
  | false=>False

def hOps (P:Program) (T:Hints) (r:Nat) (ops:Array Oper):Nat→List Oper→Act→Heap→(Act→Heap→Prop)→Prop
  | _,[],a,h,K=>K a h
  | i,o :: rest,a,h,K=>match Region.wanted o (yielded ops a.tmps) with
    | true=>hOp P T r i a.eval o h fun v h1=>hOps P T r ops (i + 1) rest (a.put o.dst v) h1 K
    | false=>hOps P T r ops (i + 1) rest (a.put o.dst undef) h K

/-- What is asked of the readings that are still open. -/
def stillH (P:Program) (M:Nat→Nat→Bool) (i:Nat) (h1:Heap):List (Nat × Act × Oper × Value)→Prop→Prop
  | [],K=>K
  | x :: qs,K=>match M i x.1 with
    | true=>stillH P M i h1 qs K
    | false=>match isAsk x.2.2.1.op with
      | true=>askV P x.2.1.eval x.2.2.1 h1 x.2.2.2∧stillH P M i h1 qs K
      | false=>obl P x.2.1.eval x.2.2.1 h1 x.2.2.2 h1∧stillH P M i h1 qs K

/-- A region that draws its order. -/
def hDraw (P:Program) (T:Hints) (r:Nat) (ops:Array Oper) (M:Nat→Nat→Bool):List Nat→List (Nat × Act × Oper × Value)→Act→Heap→(Act→Heap→Prop)→Prop
  | [],_,a,h,K=>K a h
  | i :: rest,qs,a,h,K=>match ops[i]? with
    | some o=>match Region.wanted o (yielded ops a.tmps) with
      | true=>hOp P T r i a.eval o h fun v h1=>match kindOf P o.op with
        | 3=>stillH P M i h1 qs (hDraw P T r ops M rest qs (a.put o.dst v) h1 K)
        | 2=>hDraw P T r ops M rest ((i,a,o,v) :: qs) (a.put o.dst v) h1 K
        | _=>hDraw P T r ops M rest qs (a.put o.dst v) h1 K
      | false=>hDraw P T r ops M rest qs (a.put o.dst undef) h K
    | none=>False

/-- Code run in symbols; loops, and what else is not reckoned, are left to be shown. -/
def hCode (P:Program) (T:Hints):Nat→Option Nat→Code→Act→Heap→(Exit→Act→Heap→Prop)→Prop
  | 0,ro,c,a,h,K=>WCode P ro c a h K
  | n + 1,ro,c,a,h,K=>match c with
    | .skip=>K .normal a h
    | .label _=>K .normal a h
    | .exit id=>K (.exit id) a h
    | .ret=>K .ret a h
    | .region r ops false=>hOps P T r ops 0 ops.toList a h (K .normal)
    | .region r ops true=>match P.follows .mixedOrders && staticOk P ops.toList (quietOrd P ops.toList) (ancTab ops.toList) (posOf (quietOrd P ops.toList) ops.size) with
      | true=>hDraw P T r ops (tabT (ancTab ops.toList)) (quietOrd P ops.toList) [] a h (K .normal)
      | false=>False
    | .seq c d=>hCode P T n ro c a h fun x a1 h1=>match x with
      | .normal=>hCode P T n ro d a1 h1 K
      | x=>K x a1 h1
    | .cond c d e=>match opndOk c with
      | true=>match (match c with | .tmp t=>T.bit t | _=>none) with
        | some b=>a.eval c=.bool b∧hCode P T n ro (if b then d else e) a h K
        | none=>match a.eval c with
          | .bool t=>hCode P T n ro (if t then d else e) a h K
          | _=>False
      | false=>False
    | .block id c=>hCode P T n ro c a h fun x a1 h1=>K (match x with | .exit j=>if j=id then .normal else .exit j | y=>y) a1 h1
    | c=>WCode P ro c a h K

/-- What is asked of hinted results. -/
def hRes (P:Program) (h:Heap) (tmps:Array Value):List ResultVar→List Value→Prop
  | [],[]=>True
  | .tmp t :: r,v :: vs=>v=tmps.getD t undef∧hRes P h tmps r vs
  | .cell a t :: r,v :: vs=>loadT P h t (tmps.getD a undef)=some v∧hRes P h tmps r vs
  | _,_=>False

/-- A function's end, reckoned. -/
def hEnd (P:Program) (T:Hints) (fn:Func) (K:Value→Heap→Prop) (x:Exit) (a1:Act) (h1:Heap):Prop :=
  match x with
  | .normal | .ret=>match takeA h1 a1.defers with
    | some h2=>match T.res with
      | some vs=>hRes P h2 a1.tmps fn.results.toList vs∧K (match vs with | [v]=>v | vs=>.tuple vs.toArray) h2
      | none=>match resultsA P h2 fn a1.tmps with
        | some v=>K v h2
        | none=>False
    | none=>False
  | _=>False

theorem hRes_resA {P:Program} {h:Heap} {tmps:Array Value}:∀ (rs:List ResultVar) (vs:List Value),hRes P h tmps rs vs→resA P h tmps rs=some vs
  | [],[],_=>rfl
  | .tmp t :: r,v :: vs,hw=>by simp only [resA,hRes_resA r vs hw.2,Option.map_some,hw.1]
  | .cell a t :: r,v :: vs,hw=>by simp only [resA,hw.1,hRes_resA r vs hw.2]
  | [],_ :: _,hw=>by cases hw
  | .tmp _ :: _,[],hw=>by cases hw
  | .cell _ _ :: _,[],hw=>by cases hw

section
variable {P : Program} {T : Hints}

theorem hOp_w {r i:Nat} {ev:Operand→Value} {o:Oper} {h:Heap} {K:Value→Heap→Prop} (hw:hOp P T r i ev o h K):WOp P ev o h K:=by
  unfold hOp at hw
  split at hw
  · rename_i hok
    split at hw
    · split at hw
      · rename_i hb; exact ⟨_,_,obl_step hok hb hw.1,hw.2⟩
      · cases hw
    · split at hw
      · exact wo_op hok (ask_am hw.1) hw.2
      · split at hw
        · rename_i ho; obtain ⟨rfl,hw⟩:=hw; exact wo_op hok ho hw
        · cases hw
    · split at hw
      · rename_i ho; exact wo_op hok ho hw
      · cases hw
  · cases hw

theorem WOp.mono {ev:Operand→Value} {o:Oper} {h:Heap} {K K':Value→Heap→Prop} (k:WOp P ev o h K) (hk:∀ v h1,K v h1→K' v h1):WOp P ev o h K':=by
  obtain ⟨v,h1,s,q⟩:=k; exact ⟨v,h1,s,hk _ _ q⟩

theorem hOps_w {r:Nat} {ops:Array Oper} {K:Act→Heap→Prop}:∀ (l:List Oper) (i:Nat) (a:Act) (h:Heap),hOps P T r ops i l a h K→WOps P ops l a h K
  | [],i,a,h,hw=>hw
  | o :: rest,i,a,h,hw=>by
    simp only [hOps] at hw
    simp only [WOps]
    split at hw
    · rename_i hwd
      rw [if_pos hwd]
      exact (hOp_w hw).mono fun v h1 q=>hOps_w rest (i + 1) _ _ q
    · rename_i hwd
      rw [if_neg (by rw [hwd]; simp)]
      exact hOps_w rest (i + 1) _ _ hw

theorem obl_read {ev:Operand→Value} {o:Oper} {h h1:Heap} {v:Value} (hk:kindOf P o.op=2) (ho:obl P ev o h v h1):amOp P ev o h=some (v,h1):=by
  unfold obl at ho
  split at ho
  · rename_i hop; obtain ⟨q,rfl⟩:=ho; simp [amOp,hop,withH,q]
  · rename_i hop; obtain ⟨q,rfl⟩:=ho; simp [amOp,hop,q]
  · rename_i hop; obtain ⟨q,rfl⟩:=ho; simp [amOp,hop,withH,q]
  · rename_i hop; obtain ⟨q,rfl⟩:=ho; simp [amOp,hop,withH,q]
  · rename_i hop; obtain ⟨q,rfl⟩:=ho; simp [amOp,hop,withH,q]
  · rename_i hop; obtain ⟨q,rfl⟩:=ho; simp [amOp,hop,withH,q]
  · rename_i hop; obtain ⟨q,rfl⟩:=ho; simp [amOp,hop,q]
  · rename_i hop; simp [amOp,hop,ho]
  · rename_i hop; obtain ⟨q,rfl⟩:=ho; simp [amOp,hop,q]
  · rename_i hop; simp [amOp,hop,ho]
  · rename_i hop; obtain ⟨q,rfl⟩:=ho; simp [amOp,hop,withH,q]
  · rename_i hop; simp [amOp,hop,builtinA,ho]
  · rename_i hop; rw [hop] at hk; simp [kindOf] at hk
  · rename_i hop; rw [hop] at hk; simp [kindOf] at hk
  · split at ho
    · rename_i hq; obtain ⟨rfl,rfl⟩:=ho; exact hq
    · cases ho

theorem stillH_all {M:Nat→Nat→Bool} {i:Nat} {h1:Heap} {K:Prop}:∀ (qs:List (Nat × Act × Oper × Value)),(∀ x ∈ qs,kindOf P x.2.2.1.op=2)→stillH P M i h1 qs K →
    (∀ x ∈ qs,M i x.1=false→amOp P x.2.1.eval x.2.2.1 h1=some (x.2.2.2,h1))∧K
  | [],_,hw=>⟨fun x hx=>by simp at hx,hw⟩
  | x :: qs,hk,hw=>by
    simp only [stillH] at hw
    split at hw
    · rename_i hM
      obtain ⟨g1,g2⟩:=stillH_all qs (fun y hy=>hk y (by simp [hy])) hw
      refine ⟨fun y hy hn=>?_,g2⟩
      rcases List.mem_cons.1 hy with rfl | hy
      · rw [hM] at hn; cases hn
      · exact g1 y hy hn
    · split at hw
      · obtain ⟨g1,g2⟩:=stillH_all qs (fun y hy=>hk y (by simp [hy])) hw.2
        refine ⟨fun y hy hn=>?_,g2⟩
        rcases List.mem_cons.1 hy with rfl | hy
        · exact ask_am hw.1
        · exact g1 y hy hn
      · obtain ⟨g1,g2⟩:=stillH_all qs (fun y hy=>hk y (by simp [hy])) hw.2
        refine ⟨fun y hy hn=>?_,g2⟩
        rcases List.mem_cons.1 hy with rfl | hy
        · exact obl_read (hk y (by simp)) hw.1
        · exact g1 y hy hn

theorem hDraw_run {r:Nat} {ops:Array Oper} {M:Nat→Nat→Bool} {K:Act→Heap→Prop}:∀ (l:List Nat) (qs:List (Nat × Act × Oper × Value)) (a:Act) (h:Heap),(∀ x ∈ qs,kindOf P x.2.2.1.op=2)→hDraw P T r ops M l qs a h K →
    ∃ a1 h1,drun P (SoundCall P) (SoundYield P) ops M l qs a h a1 h1∧K a1 h1
  | [],qs,a,h,_,hw=>⟨a,h,⟨rfl,rfl⟩,hw⟩
  | i :: rest,qs,a,h,hk,hw=>by
    simp only [hDraw] at hw
    split at hw
    · rename_i o ho
      split at hw
      · rename_i hwd
        obtain ⟨v,h1,hs,hw⟩:=hOp_w hw
        split at hw
        · rename_i h3
          obtain ⟨g1,g2⟩:=stillH_all qs hk hw
          obtain ⟨a2,h2,hd,hK⟩:=hDraw_run rest qs _ _ hk g2
          exact ⟨a2,h2,⟨o,ho,.inl ⟨hwd,v,h1,hs,fun _=>g1,by rw [if_neg (by omega)]; exact hd⟩⟩,hK⟩
        · rename_i h3
          obtain ⟨a2,h2,hd,hK⟩:=hDraw_run rest _ _ _ (fun x hx=>by
            rcases List.mem_cons.1 hx with rfl | hx
            · exact h3
            · exact hk x hx) hw
          exact ⟨a2,h2,⟨o,ho,.inl ⟨hwd,v,h1,hs,fun q=>by omega,by rw [if_pos h3]; exact hd⟩⟩,hK⟩
        · rename_i h3 h4
          obtain ⟨a2,h2,hd,hK⟩:=hDraw_run rest qs _ _ hk hw
          exact ⟨a2,h2,⟨o,ho,.inl ⟨hwd,v,h1,hs,fun q=>absurd q h3,by rw [if_neg h4]; exact hd⟩⟩,hK⟩
      · rename_i hwd
        obtain ⟨a2,h2,hd,hK⟩:=hDraw_run rest qs _ _ hk hw
        exact ⟨a2,h2,⟨o,ho,.inr ⟨hwd,hd⟩⟩,hK⟩
    · cases hw

theorem hCode_w:∀ (n:Nat) (ro:Option Nat) (c:Code) (a:Act) (h:Heap) (K:Exit→Act→Heap→Prop),hCode P T n ro c a h K→WCode P ro c a h K
  | 0,ro,c,a,h,K,hw=>hw
  | n + 1,ro,c,a,h,K,hw=>by
    unfold hCode at hw
    split at hw
    · exact wc_skip hw
    · exact wc_label hw
    · exact wc_exit hw
    · exact wc_ret hw
    · exact wc_region (hOps_w _ _ _ _ hw)
    · split at hw
      · rename_i hst
        simp only [Bool.and_eq_true] at hst
        obtain ⟨a1,h1,hd,hK⟩:=hDraw_run _ _ _ _ (by simp) hw
        exact ⟨.normal,a1,h1,sound_draw hst.1 (static_of hst.2) hd,hK⟩
      · cases hw
    · refine wc_seq ((hCode_w n _ _ _ _ _ hw).mono fun x a1 h1 q=>?_)
      cases x with
      | normal=>exact hCode_w n _ _ _ _ _ q
      | _=>exact q
    · split at hw
      · rename_i hok
        split at hw
        · exact wc_cond hok hw.1 (hCode_w n _ _ _ _ _ hw.2)
        · split at hw
          · rename_i ht; exact wc_cond hok ht (hCode_w n _ _ _ _ _ hw)
          · cases hw
      · cases hw
    · exact wc_block (hCode_w n _ _ _ _ _ hw)
    · exact hw

theorem hEnd_post {fn:Func} {K:Value→Heap→Prop} {x:Exit} {a1:Act} {h1:Heap} (hw:hEnd P T fn K x a1 h1):callPost P fn K x a1 h1:=by
  have key:∀ h2,takeA h1 a1.defers=some h2→(match T.res with
      | some vs=>hRes P h2 a1.tmps fn.results.toList vs∧K (match vs with | [v]=>v | vs=>.tuple vs.toArray) h2
      | none=>match resultsA P h2 fn a1.tmps with
        | some v=>K v h2
        | none=>False)→∃ h2 v,takeA h1 a1.defers=some h2∧resultsA P h2 fn a1.tmps=some v∧K v h2:=by
    intro h2 ht hw
    split at hw
    · rename_i vs _
      refine ⟨h2,_,ht,?_,hw.2⟩
      unfold resultsA
      rw [hRes_resA _ _ hw.1]
      split
      · rename_i e; cases e; rfl
      · rename_i hne e
        cases e
        split
        · exact absurd rfl (hne _)
        · rfl
      · rename_i e; cases e
    · split at hw
      · rename_i hr; exact ⟨h2,_,ht,hr,hw⟩
      · cases hw
  unfold hEnd at hw
  split at hw
  · split at hw
    · rename_i ht; exact ⟨.inl rfl,key _ ht hw⟩
    · cases hw
  · split at hw
    · rename_i ht; exact ⟨.inr rfl,key _ ht hw⟩
    · cases hw
  · cases hw

/-- A call, run in symbols. -/
def hCall (P:Program) (T:Hints) (n:Nat) (f:FuncId) (args:Array Value) (h:Heap) (K:Value→Heap→Prop):Prop :=
  match P.funcs[f]? with
  | some fn=>match fn.body with
    | some c=>hCode P T n none c { tmps:=args++Array.replicate (fn.ntmps - args.size) undef,defers:=[] } h (hEnd P T fn K)
    | none=>False
  | none=>False

theorem hCall_w {n:Nat} {f:FuncId} {args:Array Value} {h:Heap} {K:Value→Heap→Prop} (hw:hCall P T n f args h K):WCall P f args h K:=by
  unfold hCall at hw
  split at hw
  · rename_i hf
    split at hw
    · rename_i hb
      exact wcall hf hb ((hCode_w _ _ _ _ _ _ hw).mono fun x a1 h1 q=>hEnd_post q)
    · cases hw
  · cases hw
end

/-- A hinted outcome, and what it rests on. -/
structure Ev where
  r:Nat
  i:Nat
  v:Value
  h:Option Heap
  p:Prop
  pf:p
def look:List Ev→Nat→Nat→Option (Value × Option Heap)
  | [],_,_=>none
  | e :: es,r,i=>match Nat.beq e.r r && Nat.beq e.i i with
    | true=>some (e.v,e.h)
    | false=>look es r i
def conj:List Ev→Prop→Prop
  | [],q=>q
  | e :: es,q=>e.p∧conj es q
def resQ:List Ev→Prop→Prop
  | [],q=>q
  | e :: es,q=>conj (e :: es) True∧q
def hintsOf (l rl:List Ev):Hints:=⟨look l,fun _=>none,match rl with | []=>none | _=>some (rl.map (·.v))⟩
theorem conj_of:∀ (l:List Ev) {q:Prop},q→conj l q
  | [],_,hq=>hq
  | e :: es,_,hq=>⟨e.pf,conj_of es hq⟩
theorem resQ_of:∀ (l:List Ev) {q:Prop},q→resQ l q
  | [],_,hq=>hq
  | e :: es,_,hq=>⟨conj_of (e :: es) trivial,hq⟩
theorem hCall_ev {P:Program} {f:FuncId} {args:Array Value} {h:Heap} {K:Value→Heap→Prop} (l rl:List Ev) (v:Value) (h1:Heap) (hk:K v h1)
    (e:hCall P (hintsOf l rl) 200 f args h K=conj l (resQ rl (K v h1)):=by kernel_rfl):WCall P f args h K:=hCall_w (e ▸ conj_of l (resQ_of rl hk))
end Go.AM
