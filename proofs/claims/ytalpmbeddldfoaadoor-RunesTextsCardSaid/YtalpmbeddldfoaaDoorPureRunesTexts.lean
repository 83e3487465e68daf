/- RunesTexts' pure statement. -/
import Derived.Test.YtalpmbeddldfoaaDoorPAwake5
import Derived.Test.YtalpmbeddldfoaaDoorStRunesTexts
set_option linter.unusedVariables false
namespace Go.Proofs.YtalpmbeddldfoaaDoor.Pure
open Go.RowKit Go.Proofs.YtalpmbeddldfoaaDoorW.PrintWords Go.Proofs.YtalpmbeddldfoaaDoor.Hand Go.Proofs.YtalpmbeddldfoaaDoor.PA
theorem RunesTexts : PA.RunesTextsPure := by
  intro s _
  refine Ev.rounds (g := fun k => changeoverlaw05_RunesTexts.f k s) ?_
  unfold changeoverlaw05_RunesTexts.f
  have fin : Ev (fun k => (changeoverlaw05_awake.f k).bind fun t => some t) true := awake5.bind (Ev.now _)
  by_cases h : (s.size : Int) > 500
  · exact Ev_if_pos h fin
  · have hb : s.size ≤ 1073741824 := by omega
    have b1 := refBad_ev s hb
    refine Ev_if_neg h ((runesBad_ev s hb).bind (b1.bind (Ev_if_pos rfl ((runesWhole_ev s hb).bind (b1.bind (Ev_if_pos ?_ ((runesKey_ev s hb).bind ((refKey_ev s hb).bind (Ev_if_pos ?_ ((runesVal_ev s hb).bind ((refVal_ev s hb).bind (Ev_if_pos ?_ fin)))))))))))) <;> simp [wholeB]
end Go.Proofs.YtalpmbeddldfoaaDoor.Pure
