/- The runes' small look, and the texts' statements. -/
import Derived.Test.YtalpmbeddldfoaaDoorPKeyVal
import Derived.Test.YtalpmbeddldfoaaDoorHandCut
import Derived.Test.YtalpmbeddldfoaaDoorFChangeoverlaw05Awake
import Derived.Test.YtalpmbeddldfoaaDoorFRunesWhole
set_option linter.unusedVariables false
set_option linter.unusedSimpArgs false
namespace Go.Proofs.YtalpmbeddldfoaaDoor.PA
open Go.RowKit Go.IntWalk Go.Proofs.YtalpmbeddldfoaaDoorW.PrintWords Go.Proofs.YtalpmbeddldfoaaDoor.Hand
theorem runesBad_ev (s : ByteArray) (hb : s.size ≤ 1073741824) : Ev (fun k => runes_Bad.f k s) (badFrom s s.size 0) := by
  unfold runes_Bad.f
  exact Ev_if_neg (by omega) ((refBad_ev s hb).bind (Ev.now _))
theorem runesKey_ev (s : ByteArray) (hb : s.size ≤ 1073741824) : Ev (fun k => runes_Key.f k s) (keyB s) := by
  unfold runes_Key.f
  exact Ev_if_neg (by omega) ((refKey_ev s hb).bind (Ev.now _))
theorem runesVal_ev (s : ByteArray) (hb : s.size ≤ 1073741824) : Ev (fun k => runes_Val.f k s) (valB s) := by
  unfold runes_Val.f
  exact Ev_if_neg (by omega) ((refVal_ev s hb).bind (Ev.now _))
theorem runesWhole_ev (s : ByteArray) (hb : s.size ≤ 1073741824) : Ev (fun k => runes_Whole.f k s) (wholeB s) := by
  unfold runes_Whole.f
  exact (runesBad_ev s hb).bind (Ev.now _)
theorem awake5 : Ev (fun k => changeoverlaw05_awake.f k) true := Ev.of (fun k => changeoverlaw05_awake.mono k) (k := 100) (by kernel_rfl)
end Go.Proofs.YtalpmbeddldfoaaDoor.PA
