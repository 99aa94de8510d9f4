/- An abstract machine for Go, part 31: code walked along its paths. -/
import Derived.Test.YtjkcadbblgefdaaGreatDoorBmd
import Derived.Laws.Strings
import Derived.WideShapes
import Derived.KernelRfl
namespace Go.AM

/-- A part of code, by its path. -/
def subc:Code→List Nat→Code
  | c,[]=>c
  | .seq a b,k :: p=>if k=0 then subc a p else subc b p
  | .cond _ a b,k :: p=>if k=0 then subc a p else subc b p
  | .block _ a,_ :: p=>subc a p
  | .loop a,_ :: p=>subc a p
  | .rangeFunc _ _ a b,k :: p=>if k=0 then subc a p else subc b p
  | c,_=>c

/-- Slots are written, one behind the other. -/
def updA (a:Act):List (Tmp × Value)→Act
  | []=>a
  | p :: r=>updA (a.put (some p.1) p.2) r

/-- A function's code, and the slots that it begins with. -/
def bodyOf (P:Program) (f:FuncId):Code:=match P.funcs[f]? with
  | some fn=>match fn.body with
    | some c=>c
    | none=>.skip
  | none=>.skip
def at0 (P:Program) (f:FuncId) (args:Array Value):Option Act:=match P.funcs[f]? with
  | some fn=>match fn.body with
    | some _=>some { tmps:=args++Array.replicate (fn.ntmps - args.size) undef,defers:=[] }
    | none=>none
  | none=>none
/-- What a function's end asks. -/
def endPost (P:Program) (f:FuncId) (K:Value→Heap→Prop) (x:Exit) (a1:Act) (h1:Heap):Prop:=∀ fn,P.funcs[f]?=some fn→callPost P fn K x a1 h1
def hEndF (P:Program) (T:Hints) (f:FuncId) (K:Value→Heap→Prop) (x:Exit) (a1:Act) (h1:Heap):Prop:=match P.funcs[f]? with
  | some fn=>hEnd P T fn K x a1 h1
  | none=>False

section
variable {P : Program} {T : Hints} {h : Heap} {a : Act} {ro : Option Nat} {c : Code} {K : Exit → Act → Heap → Prop}

theorem wcall_at {f:FuncId} {args:Array Value} {K:Value→Heap→Prop} (a:Act) (e:at0 P f args=some a) (hw:WCode P none (subc (bodyOf P f) []) a h (endPost P f K)):WCall P f args h K:=by
  unfold at0 at e
  split at e
  · rename_i fn hf
    split at e
    · rename_i c hb
      cases e
      have hc:subc (bodyOf P f) []=c:=by simp [bodyOf,hf,hb,subc]
      rw [hc] at hw
      exact wcall hf hb (hw.mono fun x a1 h1 q=>q fn hf)
    · cases e
  · cases e

theorem end_at {f:FuncId} {K:Value→Heap→Prop} {x:Exit} {a1:Act} {h1:Heap} {A:Prop} (e:hEndF P T f K x a1 h1=A) (ha:A):endPost P f K x a1 h1:=by
  intro fn hf
  rw [← e] at ha
  unfold hEndF at ha
  rw [hf] at ha
  exact hEnd_post ha

theorem wcall_by {f:FuncId} {args:Array Value} {Q:Value→Heap→Prop} (H:∀ K:Value→Heap→Prop,(∀ v h1,Q v h1→K v h1)→WCall P f args h K):WCall P f args h Q:=H _ fun _ _ q=>q
theorem wc_ev (l:List Ev) (x:Exit) (h1:Heap) (u:List (Tmp × Value)) (hk:K x (updA a u) h1) (e:∀ K',hCode P (hintsOf l []) 200 ro c a h K'=conj l (K' x (updA a u) h1):=by intro K'; kernel_rfl):WCode P ro c a h K :=
  hCode_w _ _ _ _ _ _ ((e K).symm ▸ conj_of l hk)
theorem end_ev {f:FuncId} {K:Value→Heap→Prop} {x:Exit} {a1:Act} {h1:Heap} (rl:List Ev) (v:Value) (hk:K v h1) (e:hEndF P (hintsOf [] rl) f K x a1 h1=resQ rl (K v h1):=by kernel_rfl):endPost P f K x a1 h1 :=
  end_at e (resQ_of rl hk)
theorem wc_act (b:Act) (e:a=b) (hw:WCode P ro c b h K):WCode P ro c a h K:=e ▸ hw
theorem wc_seq' (d e:Code) (hc:c=.seq d e) (hw:WCode P ro d a h fun x a1 h1=>match x with | .normal=>WCode P ro e a1 h1 K | x=>K x a1 h1):WCode P ro c a h K:=by subst hc; exact wc_seq hw
theorem wc_block' (id:Nat) (d:Code) (hc:c=.block id d) (hw:WCode P ro d a h fun x a1 h1=>K (match x with | .exit j=>if j=id then .normal else .exit j | y=>y) a1 h1):WCode P ro c a h K:=by subst hc; exact wc_block hw
theorem wc_loop' (body:Code) (hc:c=.loop body) (I:Nat→Act→Heap→Prop) (step:∀ n a h,I n a h→WCode P ro body a h fun x a1 h1=>match x with | .normal=>∃ m,m < n∧I m a1 h1 | x=>K x a1 h1) (n:Nat) (hi:I n a h):WCode P ro c a h K:=by
  subst hc; exact wc_loop I step n a h hi

theorem wc_once (body:Code) (hc:c=.loop body) (hw:WCode P ro body a h fun x a1 h1=>match x with | .normal=>WCode P ro (.loop body) a1 h1 K | x=>K x a1 h1):WCode P ro c a h K:=by
  subst hc
  obtain ⟨x,a1,h1,s,q⟩:=hw
  cases x with
  | normal=>obtain ⟨x,a2,h2,s2,q2⟩:=q; exact ⟨x,a2,h2,sound_loop_more s s2,q2⟩
  | _=>exact ⟨_,a1,h1,sound_loop_stop (by simp) s,q⟩
theorem rem_int {t:TypeId} {k:IntKind} {a b:Int} (hb:b ≠ 0):binA P .rem t (.int k a) (.int k b)=some (.int k (a.tmod b)):=by simp [binA,intBinA,hb]

/-- Lists that lie below the elements of a list. -/
def SubAt {α β:Type} (h:Heap) (g:β→Array Value) (z:Nat) (L:α→List β) (V:α→Value) (xs:List α):Prop:=∀ x ∈ xs,SliceAt h g z (L x) (V x)
def subFoot {α:Type} (V:α→Value) (xs:List α) (b:Nat):Prop:=∃ x ∈ xs,blk (V x) b
theorem list_at {α:Type} (xs:List α) {e:Int} (h0:0≤e) (h1:e < xs.length):∃ (i:Nat) (x:α),e=(i:Int)∧i < xs.length∧xs[i]?=some x :=
  ⟨e.toNat,xs[e.toNat]'(by omega),by omega,by omega,List.getElem?_eq_getElem (by omega)⟩

theorem toList_inj {a b:ByteArray} (q:a.toList=b.toList):a=b:=by
  rw [ByteArray.toList_eq,ByteArray.toList_eq] at q
  exact Go.WideShapes.bytes_inj q
theorem str_beq (a b:ByteArray):(a.toList == b.toList)=decide (a=b):=by
  by_cases e:a=b
  · subst e; simp
  · have hl:a.toList ≠ b.toList:=fun q=>e (toList_inj q)
    simp [e,hl]
theorem cmp_str_eql {t:TypeId} {a b:ByteArray} {r:Bool} (e:decide (a=b)=r):binA P .eql t (.string a) (.string b)=some (.bool r):=by
  subst e; simp [binA,strBinA,str_beq]
theorem cmp_str_neq {t:TypeId} {a b:ByteArray} {r:Bool} (e:decide (a ≠ b)=r):binA P .neq t (.string a) (.string b)=some (.bool r):=by
  subst e; simp [binA,strBinA,str_beq]
end
section
variable {P : Program} {a b : ByteArray} (r i t : Nat)
def seT (c:a=b):Ev:=evQ (P:=P) (t:=t) r i (cmp_str_eql (decide_eq_true c))
def seF (c:¬ a=b):Ev:=evQ (P:=P) (t:=t) r i (cmp_str_eql (decide_eq_false c))
def snT (c:¬ a=b):Ev:=evQ (P:=P) (t:=t) r i (cmp_str_neq (decide_eq_true c))
def snF (c:a=b):Ev:=evQ (P:=P) (t:=t) r i (cmp_str_neq (decide_eq_false (not_not_intro c)))
end
end Go.AM
