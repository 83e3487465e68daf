-- A text that a program wrote for this claim (rowgen.py).
import Derived.Test.YtalpmbeddldfoaaR
import Derived.Test.YtalpmbeddldfoaaFChangeoverlaw04PackNobody
namespace Go.Proofs.Ytalpmbeddldfoaa.PA
/-- THE ONE PURE STATEMENT of PackNobody. -/
def PackNobodyPure : Prop := ∀ (a0 : Int) (a1 : ByteArray), (Lit.int .i64 a0).wf = true → a1.size ≤ maxLen → ∃ k : Nat, changeoverlaw04_PackNobody.f a0 a1 = some true
end Go.Proofs.Ytalpmbeddldfoaa.PA
