/- An abstract machine for Go, part 36: contracts of the library as facts of the machine. -/
import Derived.Test.YtjkcadbblgefdaaGreatDoorBmj
import Derived.Sort.KeysCollected
import Derived.Maps.Own
import Derived.Below
namespace Go.AM
open Go.Proofs (encStr)
open Go.RowKit

section
variable {P : Program} {h : Heap}

/-- What Calls says of every world that a canonical heap stands for. -/
theorem sound_of_calls {f:FuncId} {args:Array Value} {v:Value} {h1:Heap} (hc:∀ (R:Ren) (w:World) (args':Array Value),Rel P R (hget h) w→ArrR (VR R) args args' →
    Calls P f args' w fun e w'=>∃ R1 v',e=.returned v'∧Sim P R h w R1 h1 w'∧VR R1 v v'):SoundCall P f args h v h1:=by
  intro R w args' k ha Q hq n ro
  have c:CallsIn (wideR ro) n P f args' w _:=(callsIn_wide (n:=n)).2 (hc R w args' k ha)
  refine c.mono ?_
  rintro e w' ⟨R1,v',rfl,s,hv⟩
  exact hq R1 w' v' s hv
theorem arr_one {R:Ren} {x:Value} {args':Array Value} (ha:ArrR (VR R) #[x] args'):∃ x',args'=#[x']∧VR R x x':=by
  have hs:args'.size=1:=ha.1
  refine ⟨args'[0],?_,ha.2 0 x _ rfl (by simp [hs])⟩
  apply Array.ext
  · simp [hs]
  · intro i hi hi'
    have:i=0:=by omega
    subst this; rfl
/-- A reader that reads every value alike. -/
def anyR (_:Value):Option (DataW Unit × List MemPlace):=some (.lit (.bool true),[])
end
end Go.AM
