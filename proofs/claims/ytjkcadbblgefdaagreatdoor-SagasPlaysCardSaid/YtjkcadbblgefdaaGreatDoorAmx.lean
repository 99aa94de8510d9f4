/- An abstract machine for Go, part 24: code run in symbols. -/
import Derived.Test.YtjkcadbblgefdaaGreatDoorAmw
namespace Go.AM

/-- A call comes to what K bears. -/
def WCall (P:Program) (f:FuncId) (args:Array Value) (h:Heap) (K:Value→Heap→Prop):Prop:=∃ v h1,SoundCall P f args h v h1∧K v h1

/-- One operation comes to what K bears. -/
def WOp (P:Program) (ev:Operand→Value) (o:Oper) (h:Heap) (K:Value→Heap→Prop):Prop:=∃ v h1,stepRel P (SoundCall P) (SoundYield P) ev o h v h1∧K v h1

/-- The operations of a region in their text's order. -/
def WOps (P:Program) (ops:Array Oper):List Oper→Act→Heap→(Act→Heap→Prop)→Prop
  | [],a,h,K=>K a h
  | o :: rest,a,h,K=>if Region.wanted o (yielded ops a.tmps)=true then WOp P a.eval o h fun v h1=>WOps P ops rest (a.put o.dst v) h1 K else WOps P ops rest (a.put o.dst undef) h K

/-- Code comes to what K bears. -/
def WCode (P:Program) (ro:Option Nat) (c:Code) (a:Act) (h:Heap) (K:Exit→Act→Heap→Prop):Prop:=∃ x a1 h1,SoundCode P ro c a h x a1 h1∧K x a1 h1

section
variable {P : Program} {ops : Array Oper} {a : Act} {h : Heap} {ro : Option Nat}

theorem WCall.mono {f:FuncId} {args:Array Value} {K K':Value→Heap→Prop} (k:WCall P f args h K) (hk:∀ v h1,K v h1→K' v h1):WCall P f args h K':=by
  obtain ⟨v,h1,s,q⟩:=k; exact ⟨v,h1,s,hk _ _ q⟩
theorem WCode.mono {c:Code} {K K':Exit→Act→Heap→Prop} (k:WCode P ro c a h K) (hk:∀ x a1 h1,K x a1 h1→K' x a1 h1):WCode P ro c a h K':=by
  obtain ⟨x,a1,h1,s,q⟩:=k; exact ⟨x,a1,h1,s,hk _ _ _ q⟩

theorem WOps.run {K:Act→Heap→Prop}:∀ (l:List Oper) (k:Nat) (a:Act) (h:Heap),(∀ j,l[j]?=ops[k + j]?)→WOps P ops l a h K →
    ∃ a1 h1,plainRun P (SoundCall P) (SoundYield P) ops (List.range' k l.length) a h a1 h1∧K a1 h1
  | [],k,a,h,_,hw=>⟨a,h,⟨rfl,rfl⟩,hw⟩
  | o :: rest,k,a,h,hl,hw=>by
    have ho:ops[k]?=some o:=by have:=hl 0; simpa using this.symm
    have hl':∀ j,rest[j]?=ops[k + 1 + j]?:=fun j=>by have:=hl (j + 1); simpa [Nat.add_assoc,Nat.add_comm 1 j] using this
    simp only [WOps] at hw
    split at hw
    · rename_i hwd
      obtain ⟨v,h1,hs,hw⟩:=hw
      obtain ⟨a2,h2,hp,hk⟩:=WOps.run rest (k + 1) _ _ hl' hw
      exact ⟨a2,h2,⟨o,ho,.inl ⟨hwd,v,h1,hs,hp⟩⟩,hk⟩
    · rename_i hwd
      obtain ⟨a2,h2,hp,hk⟩:=WOps.run rest (k + 1) _ _ hl' hw
      exact ⟨a2,h2,⟨o,ho,.inr ⟨by simpa using hwd,hp⟩⟩,hk⟩

theorem wc_region {id:Nat} {K:Exit→Act→Heap→Prop} (hw:WOps P ops ops.toList a h (K .normal)):WCode P ro (.region id ops false) a h K:=by
  obtain ⟨a1,h1,hp,hk⟩:=WOps.run ops.toList 0 a h (fun j=>by simp) hw
  refine ⟨.normal,a1,h1,sound_region ?_,hk⟩
  rw [List.range_eq_range']
  simpa using hp

theorem wc_skip {K:Exit→Act→Heap→Prop} (hk:K .normal a h):WCode P ro .skip a h K:=⟨_,_,_,sound_skip,hk⟩
theorem wc_label {l:Nat} {K:Exit→Act→Heap→Prop} (hk:K .normal a h):WCode P ro (.label l) a h K:=⟨_,_,_,sound_label,hk⟩
theorem wc_exit {id:Nat} {K:Exit→Act→Heap→Prop} (hk:K (.exit id) a h):WCode P ro (.exit id) a h K:=⟨_,_,_,sound_exit,hk⟩
theorem wc_ret {K:Exit→Act→Heap→Prop} (hk:K .ret a h):WCode P ro .ret a h K:=⟨_,_,_,sound_ret,hk⟩

theorem wc_seq {c d:Code} {K:Exit→Act→Heap→Prop} (hw:WCode P ro c a h fun x a1 h1=>match x with | .normal=>WCode P ro d a1 h1 K | x=>K x a1 h1):WCode P ro (.seq c d) a h K:=by
  obtain ⟨x,a1,h1,s,q⟩:=hw
  cases x with
  | normal=>obtain ⟨x,a2,h2,s2,q2⟩:=q; exact ⟨x,a2,h2,sound_seq s s2,q2⟩
  | _=>exact ⟨_,a1,h1,sound_seq_stop (by simp) s,q⟩

theorem wc_cond {c:Operand} {d e:Code} {t:Bool} {K:Exit→Act→Heap→Prop} (hok:opndOk c=true) (hc:a.eval c=.bool t) (hw:WCode P ro (if t then d else e) a h K):WCode P ro (.cond c d e) a h K:=by
  obtain ⟨x,a1,h1,s,q⟩:=hw
  exact ⟨x,a1,h1,sound_cond hok hc s,q⟩

theorem wc_block {id:Nat} {c:Code} {K:Exit→Act→Heap→Prop} (hw:WCode P ro c a h fun x a1 h1=>K (match x with | .exit j=>if j=id then .normal else .exit j | y=>y) a1 h1):WCode P ro (.block id c) a h K:=by
  obtain ⟨x,a1,h1,s,q⟩:=hw
  have sb:=sound_block (id:=id) s
  exact ⟨_,a1,h1,sb,by cases x <;> exact q⟩

/-- A loop: what holds at its head, and how many rounds are left at most. -/
theorem wc_loop {body:Code} {K:Exit→Act→Heap→Prop} (I:Nat→Act→Heap→Prop) (step:∀ n a h,I n a h→WCode P ro body a h fun x a1 h1=>match x with | .normal=>∃ m,m < n∧I m a1 h1 | x=>K x a1 h1) :
    ∀ n a h,I n a h→WCode P ro (.loop body) a h K:=by
  intro n
  induction n using Nat.strongRecOn with
  | _ n ih =>
    intro a h hi
    obtain ⟨x,a1,h1,s,q⟩:=step n a h hi
    cases x with
    | normal =>
      obtain ⟨m,hm,hi'⟩:=q
      obtain ⟨x,a2,h2,s2,q2⟩:=ih m hm _ _ hi'
      exact ⟨x,a2,h2,sound_loop_more s s2,q2⟩
    | _=>exact ⟨_,a1,h1,sound_loop_stop (by simp) s,q⟩

/-- What a function's end asks. -/
def callPost (P:Program) (fn:Func) (K:Value→Heap→Prop) (x:Exit) (a1:Act) (h1:Heap):Prop :=
  (x=.normal ∨ x=.ret)∧∃ h2 v,takeA h1 a1.defers=some h2∧resultsA P h2 fn a1.tmps=some v∧K v h2

theorem wcall {f:FuncId} {fn:Func} {c:Code} {args:Array Value} {K:Value→Heap→Prop} (hf:P.funcs[f]?=some fn) (hb:fn.body=some c)
    (hw:WCode P none c { tmps:=args++Array.replicate (fn.ntmps - args.size) undef,defers:=[] } h (callPost P fn K)):WCall P f args h K:=by
  obtain ⟨x,a1,h1,s,hx,h2,v,ht,hr,hk⟩:=hw
  exact ⟨v,h2,sound_call hf hb s hx ht hr,hk⟩

theorem wo_op {ev:Operand→Value} {o:Oper} {v:Value} {h1:Heap} {K:Value→Heap→Prop} (hok:operOk o=true) (ho:amOp P ev o h=some (v,h1)) (hk:K v h1):WOp P ev o h K:=⟨v,h1,⟨hok,.inl ho⟩,hk⟩

end
end Go.AM
