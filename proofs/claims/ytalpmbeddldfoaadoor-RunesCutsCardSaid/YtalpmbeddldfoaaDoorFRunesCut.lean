-- A text that a program wrote for this claim (print.py over stand-in bodies, tool/pr.sh).
import Derived.Test.YtalpmbeddldfoaaDoorF0
import Derived.Test.YtalpmbeddldfoaaDoorFChangeoverref05Cut
import Derived.Test.YtalpmbeddldfoaaDoorHandCut
namespace Go.Proofs.YtalpmbeddldfoaaDoor.PA
open Go.RowKit Go.Proofs.YtalpmbeddldfoaaDoor.Hand Go.Proofs.YtalpmbeddldfoaaDoorW.PrintWords Go.Proofs.YtalpmbeddldfoaaDoorW.PrintLast Go.Proofs.YtalpmbeddldfoaaDoorW.PrintMore
attribute [local go_sem] max2_int min2_int max_two min_two max_three min_three max_four min_four   -- for this text's walks alone
attribute [local go_sem high] str_leq str_gtr str_geq
set_option linter.unusedVariables false
set_option linter.unusedSimpArgs false

/-! ### runes_Cut: function 28 -/
def runes_Cut.f (k : Nat) (a0 : ByteArray) (a1 : Int) : Option (ByteArray) := if (a0.size : Int) > 1073741824 then (if 0 ≤ (a0.size : Int) then (if (a0.size : Int) < (a0.size : Int) then (if (bt a0 (a0.size : Int)) = 0 then (some a0) else (some a0)) else (none)) else (none)) else (if a1 > 9223372036854775807 then (if 0 ≤ (a0.size : Int) then (if (a0.size : Int) < (a0.size : Int) then (if (bt a0 (a0.size : Int)) = 0 then (some a0) else (some a0)) else (none)) else (none)) else ((changeoverref05_Cut.f k a0 a1).bind fun bt138 => (some bt138.1)))
theorem runes_Cut.mono : ∀ a0 a1 k, LeO (runes_Cut.f k a0 a1) (runes_Cut.f (k + 1) a0 a1) := by
  intro a0 a1 k
  unfold runes_Cut.f
  repeat' first
      | (with_reducible exact changeoverref05_Cut.mono _ _ _)
      | (with_reducible exact LeO.refl _)
      | (with_reducible exact LeO.none _)
      | (with_reducible refine LeO.ite ?_ ?_)
      | (with_reducible refine LeO.bind ?_ (fun _ => ?_))
      | exact changeoverref05_Cut.mono _ _ _
      | exact LeO.none _
      | refine LeO.ite ?_ ?_
      | refine LeO.bind ?_ (fun _ => ?_)
set_option maxHeartbeats 8000000 in
set_option maxRecDepth 100000 in
theorem runes_Cut.calls (k : Nat) (a0 : ByteArray) (a1 : Int) (r : ByteArray) (w : World) (h : runes_Cut.f k a0 a1 = some r) :
    Calls Tryd.prog 28 #[.string a0, .int .i64 a1] w fun e w' => e = .returned (.string r) ∧ Below w.heap.size w w' := by
  unfold runes_Cut.f at h
  by_cases hs : (a0.size : Int) > 1073741824
  · rw [if_pos hs, if_pos (by omega), if_neg (by omega)] at h
    cases h
  · rw [if_neg hs] at h
    by_cases hn : a1 > 9223372036854775807
    · rw [if_pos hn, if_pos (by omega), if_neg (by omega)] at h
      cases h
    · rw [if_neg hn] at h
      obtain ⟨t, ht, hr⟩ := Option.bind_eq_some_iff.mp h
      obtain rfl := Option.some.inj hr
      obtain ⟨q, he, hq⟩ := refCut_ev a0 (by omega) a1 a0.size 0 0 (by omega) (by omega) (by omega)
      obtain rfl := Ev_uniq (Ev.of (fun k => changeoverref05_Cut.mono a0 a1 k) ht) (g := fun k => changeoverref05_Cut.f k a0 a1) he
      dsimp only
      have := cut_walk a0 a1 (by omega) (by omega) w
      rw [show a1 - ((0 : Nat) : Int) = a1 by omega]
      exact this
end Go.Proofs.YtalpmbeddldfoaaDoor.PA
