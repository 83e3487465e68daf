/- The library's tables of UTF-8, as its initialisers lay them: a word for the contracts. -/
import Derived.Test.YtalpmbeddldfoaaDoorHandU8
namespace Go.Proofs.YtalpmbeddldfoaaDoor.PA
open Go.RowKit
/-- The two tables lie where the program has them. -/
def Tabs (w : World) : Prop := Lib.Utf8Tabs 0 1 w
theorem Tabs.go {w W : World} (h : Tabs w) (hb : Below w.heap.size w W) : Tabs W := Utf8Tabs_below h hb
end Go.Proofs.YtalpmbeddldfoaaDoor.PA
