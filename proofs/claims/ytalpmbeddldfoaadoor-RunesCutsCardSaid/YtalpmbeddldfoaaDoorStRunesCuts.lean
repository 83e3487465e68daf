-- A text that a program wrote for this claim (rowgen.py).
import Derived.Test.YtalpmbeddldfoaaDoorR
import Derived.Test.YtalpmbeddldfoaaDoorFChangeoverlaw05RunesCuts
namespace Go.Proofs.YtalpmbeddldfoaaDoor.PA
/-- THE ONE PURE STATEMENT of RunesCuts. -/
def RunesCutsPure : Prop := ∀ (a0 : ByteArray) (a1 : Int), a0.size ≤ maxLen → (Lit.int .i64 a1).wf = true → ∃ k, changeoverlaw05_RunesCuts.f k a0 a1 = some true
end Go.Proofs.YtalpmbeddldfoaaDoor.PA
