/- RunesCuts' pure statement. -/
import Derived.Test.YtalpmbeddldfoaaDoorPAwake5
import Derived.Test.YtalpmbeddldfoaaDoorFRunesCut
import Derived.Test.YtalpmbeddldfoaaDoorFRunesCount
import Derived.Test.YtalpmbeddldfoaaDoorStRunesCuts
set_option linter.unusedVariables false
namespace Go.Proofs.YtalpmbeddldfoaaDoor.PA
open Go.RowKit Go.IntWalk Go.Proofs.YtalpmbeddldfoaaDoorW.PrintWords Go.Proofs.YtalpmbeddldfoaaDoor.Hand
theorem cutD_whole (s : ByteArray) : ∀ (g i : Nat) (m : Int), s.size ≤ i + g → i ≤ s.size → (s.size : Int) - i ≤ m → cutD s g i m = s.size
  | g, i, m, h1, h2, h3 => by
    by_cases h : i < s.size
    · obtain ⟨g, rfl⟩ : ∃ m', g = m' + 1 := ⟨g - 1, by omega⟩
      have hw := width_le s i h
      have hp := Lib.width_pos s i
      simp only [cutD]
      rw [if_pos ⟨h, by omega⟩]
      exact cutD_whole s g _ _ (by omega) hw (by omega)
    · rw [cutD_end s g i m h]; omega
end Go.Proofs.YtalpmbeddldfoaaDoor.PA
namespace Go.Proofs.YtalpmbeddldfoaaDoor.Pure
open Go.RowKit Go.IntWalk Go.Proofs.YtalpmbeddldfoaaDoorW.PrintWords Go.Proofs.YtalpmbeddldfoaaDoor.Hand Go.Proofs.YtalpmbeddldfoaaDoor.PA
theorem RunesCuts : PA.RunesCutsPure := by
  intro s n _ hw
  have hn := wf_i64 hw
  refine Ev.rounds (g := fun k => changeoverlaw05_RunesCuts.f k s n) ?_
  unfold changeoverlaw05_RunesCuts.f
  have fin : Ev (fun k => (changeoverlaw05_awake.f k).bind fun t => some t) true := awake5.bind (Ev.now _)
  by_cases h : (s.size : Int) > 500
  · exact Ev_if_pos h fin
  · have hb : s.size ≤ 1073741824 := by omega
    obtain ⟨q1, c1, _⟩ := refCut_ev s hb n s.size 0 0 (by omega) (by omega) (by omega)
    obtain ⟨q2, c2, hq2⟩ := refCut_ev s hb (s.size : Int) s.size 0 0 (by omega) (by omega) (by omega)
    have d1 : Ev (fun k => changeoverref05_Cut.f k s n) _ := c1
    have d2 : Ev (fun k => changeoverref05_Cut.f k s (s.size : Int)) _ := c2
    have e1 : Ev (fun k => runes_Cut.f k s n) _ := Ev_if_neg (show ¬ ((s.size : Int) > 1073741824) by omega) (Ev_if_neg (show ¬ (n > 9223372036854775807) by omega) (d1.bind (Ev.now _)))
    have e2 : Ev (fun k => runes_Count.f k s) _ := Ev_if_neg (show ¬ ((s.size : Int) > 1073741824) by omega) (d2.bind (Ev.now _))
    have hall : s.extract 0 (cutD s s.size 0 ((s.size : Int) - ((0 : Nat) : Int))) = s := by
      rw [cutD_whole s s.size 0 _ (by omega) (by omega) (by omega), extract_all]
    refine Ev_if_neg h (d1.bind (d2.bind (e1.bind (Ev_if_pos rfl (Ev_if_pos ?_ (e2.bind (Ev_if_pos rfl fin)))))))
    dsimp only
    rw [hall]
end Go.Proofs.YtalpmbeddldfoaaDoor.Pure
