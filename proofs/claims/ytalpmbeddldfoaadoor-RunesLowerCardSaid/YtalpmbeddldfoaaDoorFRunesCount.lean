-- A text that a program wrote for this claim (print.py over stand-in bodies, tool/pr.sh).
import Derived.Test.YtalpmbeddldfoaaDoorF0
import Derived.Test.YtalpmbeddldfoaaDoorFChangeoverref05Cut
import Derived.Test.YtalpmbeddldfoaaDoorHandCut
namespace Go.Proofs.YtalpmbeddldfoaaDoor.PA
open Go.RowKit Go.Proofs.YtalpmbeddldfoaaDoor.Hand Go.Proofs.YtalpmbeddldfoaaDoorW.PrintWords Go.Proofs.YtalpmbeddldfoaaDoorW.PrintLast Go.Proofs.YtalpmbeddldfoaaDoorW.PrintMore
attribute [local go_sem] max2_int min2_int max_two min_two max_three min_three max_four min_four   -- for this text's walks alone
attribute [local go_sem high] str_leq str_gtr str_geq
set_option linter.unusedVariables false
set_option linter.unusedSimpArgs false

/-! ### runes_Count: function 29 -/
def runes_Count.f (k : Nat) (a0 : ByteArray) : Option (Int) := if (a0.size : Int) > 1073741824 then (if 0 ≤ (a0.size : Int) then (if (a0.size : Int) < (a0.size : Int) then (some (wrap64 (bt a0 (a0.size : Int)))) else (none)) else (none)) else ((changeoverref05_Cut.f k a0 (a0.size : Int)).bind fun bt116 => (some bt116.2))
theorem runes_Count.mono : ∀ a0 k, LeO (runes_Count.f k a0) (runes_Count.f (k + 1) a0) := by
  intro a0 k
  unfold runes_Count.f
  repeat' first
      | (with_reducible exact changeoverref05_Cut.mono _ _ _)
      | (with_reducible exact LeO.refl _)
      | (with_reducible exact LeO.none _)
      | (with_reducible refine LeO.ite ?_ ?_)
      | (with_reducible refine LeO.bind ?_ (fun _ => ?_))
      | exact changeoverref05_Cut.mono _ _ _
      | exact LeO.none _
      | refine LeO.ite ?_ ?_
      | refine LeO.bind ?_ (fun _ => ?_)
set_option maxHeartbeats 8000000 in
set_option maxRecDepth 100000 in
theorem runes_Count.calls (k : Nat) (a0 : ByteArray) (r : Int) (w : World) (h : runes_Count.f k a0 = some r) :
    Calls Tryd.prog 29 #[.string a0] w fun e w' => e = .returned (.int .i64 r) ∧ Below w.heap.size w w' := by
  unfold runes_Count.f at h
  by_cases hs : (a0.size : Int) > 1073741824
  · rw [if_pos hs, if_pos (by omega), if_neg (by omega)] at h
    cases h
  · rw [if_neg hs] at h
    obtain ⟨t, ht, hr⟩ := Option.bind_eq_some_iff.mp h
    obtain rfl := Option.some.inj hr
    obtain ⟨q, he, hq⟩ := refCut_ev a0 (by omega) (a0.size : Int) a0.size 0 0 (by omega) (by omega) (by omega)
    obtain rfl := Ev_uniq (Ev.of (fun k => changeoverref05_Cut.mono a0 (a0.size : Int) k) ht) (g := fun k => changeoverref05_Cut.f k a0 (a0.size : Int)) he
    have hq' := hq (Int.le_refl _)
    rw [Nat.zero_add] at hq'
    dsimp only
    rw [hq']
    exact count_walk a0 (by omega) w
end Go.Proofs.YtalpmbeddldfoaaDoor.PA
