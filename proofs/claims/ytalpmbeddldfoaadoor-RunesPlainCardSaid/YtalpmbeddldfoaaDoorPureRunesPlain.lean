/- RunesPlain's pure statement. -/
import Derived.Test.YtalpmbeddldfoaaDoorPAwake5
import Derived.Test.YtalpmbeddldfoaaDoorStRunesPlain
set_option linter.unusedVariables false
namespace Go.Proofs.YtalpmbeddldfoaaDoor.Pure
open Go.RowKit Go.IntWalk Go.Proofs.YtalpmbeddldfoaaDoorW.PrintWords Go.Proofs.YtalpmbeddldfoaaDoor.Hand Go.Proofs.YtalpmbeddldfoaaDoor.PA
theorem RunesPlain : PA.RunesPlainPure := by
  intro r hw
  have h32 : -2147483648 ≤ r ∧ r ≤ 2147483647 := by
    have e1 : IntKind.i32.min = -2147483648 := by rfl
    have e2 : IntKind.i32.max = 2147483647 := by rfl
    simp [Lit.wf, e1, e2] at hw
    exact hw
  refine Ev.rounds (g := fun k => changeoverlaw05_RunesPlain.f k r) ?_
  unfold changeoverlaw05_RunesPlain.f
  have e : wrap64 r = r := wrap64_in _ (by omega)
  rw [e]
  refine (plain_is r).bind ((refPlain_ev r).bind (Ev_if_pos ?_ (awake5.bind (Ev.now _))))
  simp
end Go.Proofs.YtalpmbeddldfoaaDoor.Pure
