/- An abstract machine for Go, part 33: loops over functions, run in symbols. -/
import Derived.Test.YtjkcadbblgefdaaGreatDoorBme
namespace Go.AM

/-- A row of whatever kind. -/
def At (h:Heap) (b:Nat) (o:Obj):Prop:=h[b]?=some o
theorem At.keep {h h1:Heap} {b:Nat} {o:Obj} (k:At h b o) (w:∀ q r,q=b→h[q]?=some r→h1[q]?=some r):At h1 b o:=w b o rfl k
theorem At.blk_lt {h:Heap} {b:Nat} {o:Obj} (k:At h b o) {q:Nat} (hq:q=b):q < h.size:=by subst hq; exact row_lt k

/-- Whether a function can be run. -/
def runs (P:Program) (k:FuncId):Bool:=match P.funcs[k]? with
  | some fn=>!(fn.name == "runtime.NumGoroutine") && fn.body.isSome
  | none=>false

section
variable {P : Program} {h h1 : Heap} {a : Act} {c : Code} {K : Exit → Act → Heap → Prop}

def resF (P:Program) (f:FuncId) (h:Heap) (tmps:Array Value):Option Value:=match P.funcs[f]? with
  | some fn=>resultsA P h fn tmps
  | none=>none
end
end Go.AM
