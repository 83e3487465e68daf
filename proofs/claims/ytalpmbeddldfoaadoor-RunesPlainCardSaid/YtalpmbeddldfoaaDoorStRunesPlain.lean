-- A text that a program wrote for this claim (rowgen.py).
import Derived.Test.YtalpmbeddldfoaaDoorR
import Derived.Test.YtalpmbeddldfoaaDoorFChangeoverlaw05RunesPlain
namespace Go.Proofs.YtalpmbeddldfoaaDoor.PA
/-- THE ONE PURE STATEMENT of RunesPlain. -/
def RunesPlainPure : Prop := ∀ (a0 : Int), (Lit.int .i32 a0).wf = true → ∃ k, changeoverlaw05_RunesPlain.f k a0 = some true
end Go.Proofs.YtalpmbeddldfoaaDoor.PA
