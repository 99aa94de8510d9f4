/- An abstract machine for Go, part 35: loops over functions that are left before their end. -/
import Derived.Test.YtjkcadbblgefdaaGreatDoorBmg
namespace Go.AM

section
variable {P : Program} {h h1 : Heap} {a : Act} {c : Code} {K : Exit → Act → Heap → Prop}

end
end Go.AM
