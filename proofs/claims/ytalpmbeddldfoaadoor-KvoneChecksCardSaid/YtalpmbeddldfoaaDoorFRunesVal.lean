-- A text that a program wrote for this claim (print.py over stand-in bodies, tool/pr.sh).
import Derived.Test.YtalpmbeddldfoaaDoorF0
import Derived.Test.YtalpmbeddldfoaaDoorFChangeoverref05Val
import Derived.Test.YtalpmbeddldfoaaDoorPKeyVal
import Derived.Test.YtalpmbeddldfoaaDoorHandT
namespace Go.Proofs.YtalpmbeddldfoaaDoor.PA
open Go.RowKit Go.Proofs.YtalpmbeddldfoaaDoor.Hand Go.Proofs.YtalpmbeddldfoaaDoorW.PrintWords Go.Proofs.YtalpmbeddldfoaaDoorW.PrintLast Go.Proofs.YtalpmbeddldfoaaDoorW.PrintMore
attribute [local go_sem] max2_int min2_int max_two min_two max_three min_three max_four min_four   -- for this text's walks alone
attribute [local go_sem high] str_leq str_gtr str_geq
set_option linter.unusedVariables false
set_option linter.unusedSimpArgs false

/-! ### runes_Val: function 23 -/
def runes_Val.f (k : Nat) (a0 : ByteArray) : Option (Bool) := if (a0.size : Int) > 1073741824 then (if 0 ≤ (a0.size : Int) then (if (a0.size : Int) < (a0.size : Int) then (some ((bt a0 (a0.size : Int)) == 0)) else (none)) else (none)) else ((changeoverref05_Val.f k a0).bind fun t112 => (some t112))
theorem runes_Val.mono : ∀ a0 k, LeO (runes_Val.f k a0) (runes_Val.f (k + 1) a0) := by
  intro a0 k
  unfold runes_Val.f
  repeat' first
      | (with_reducible exact changeoverref05_Val.mono _ _)
      | (with_reducible exact LeO.refl _)
      | (with_reducible exact LeO.none _)
      | (with_reducible refine LeO.ite ?_ ?_)
      | (with_reducible refine LeO.bind ?_ (fun _ => ?_))
      | exact changeoverref05_Val.mono _ _
      | exact LeO.none _
      | refine LeO.ite ?_ ?_
      | refine LeO.bind ?_ (fun _ => ?_)
set_option maxHeartbeats 8000000 in
set_option maxRecDepth 100000 in
theorem runes_Val.calls (k : Nat) (a0 : ByteArray) (r : Bool) (w : World) (h : runes_Val.f k a0 = some r) (hT : Tabs w) :
    Calls Tryd.prog 23 #[.string a0] w fun e w' => e = .returned (.bool r) ∧ Below w.heap.size w w' := by
  unfold runes_Val.f at h
  by_cases hs : (a0.size : Int) > 1073741824
  · rw [if_pos hs, if_pos (by omega), if_neg (by omega)] at h
    cases h
  · rw [if_neg hs] at h
    obtain ⟨t, ht, hr⟩ := Option.bind_eq_some_iff.mp h
    obtain rfl := Option.some.inj hr
    obtain rfl := Ev_uniq (Ev.of (fun k => changeoverref05_Val.mono a0 k) ht) (refVal_ev a0 (by omega))
    exact val_walk a0 (by omega) w hT
end Go.Proofs.YtalpmbeddldfoaaDoor.PA
