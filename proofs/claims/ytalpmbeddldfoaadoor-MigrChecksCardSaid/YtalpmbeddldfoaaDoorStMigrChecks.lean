import Derived.Test.YtalpmbeddldfoaaDoorR
import Derived.Test.YtalpmbeddldfoaaDoorFChangeoverlaw25MigrChecks
namespace Go.Proofs.YtalpmbeddldfoaaDoor.PA
def Zk : Prop := ∀ (a0 : Int) (l01 : List (vP)) (l02 : List (zo)) (a1 : Int) (l11 : List (vP)) (l12 : List (zo)), (Lit.int .i64 a0).wf = true → l01.length ≤ maxLen → (∀ x ∈ l01, Q50 x) → l02.length ≤ maxLen → (∀ x ∈ l02, Q74 x) → (Lit.int .i64 a1).wf = true → l11.length ≤ maxLen → (∀ x ∈ l11, Q50 x) → l12.length ≤ maxLen → (∀ x ∈ l12, Q74 x) → ∃ k, qt.f k a0 l01 l02 a1 l11 l12 = some true
end Go.Proofs.YtalpmbeddldfoaaDoor.PA
