/- Pairs without their revisions. -/
import Derived.Test.YtalpmbeddldfoaaDoorPOlder
import Derived.Test.YtalpmbeddldfoaaDoorFKvtwoPlain
set_option linter.unusedVariables false
set_option linter.unusedSimpArgs false
namespace Go.Proofs.YtalpmbeddldfoaaDoor.PA
open Go.RowKit Go.IntWalk Go.Proofs.YtalpmbeddldfoaaDoorW.PrintWords Go.Proofs.YtalpmbeddldfoaaDoor.Hand
theorem plainUn_go (l : List vA) (hl : l.length ≤ 1000) : ∀ (m i : Nat), l.length ≤ i + m → i ≤ l.length → Ev (fun k => vm.l0 k ((l.map un).take i ++ l.drop i) (l.length : Int) (i : Int)) (l.map un)
  | m, i, hm, hi => by
    by_cases h : i < l.length
    · obtain ⟨m, rfl⟩ : ∃ m', m = m' + 1 := ⟨m - 1, by omega⟩
      have e2 := zu i (by omega)
      have hlen : ((l.map un).take i ++ l.drop i).length = l.length := by simp; omega
      refine Ev.step (fun k => ?_) (plainUn_go l hl m (i + 1) (by omega) (by omega))
      simp only [vm.l0, e2]
      refine Eq.trans (if_pos (by omega)) (Eq.trans (if_pos (by omega)) (Eq.trans (if_pos (by omega)) ?_))
      congr 1
      have hg : pg ((l.map un).take i ++ l.drop i) i = pg l i := by
        unfold pg
        rw [List.getD_eq_getElem?_getD, List.getD_eq_getElem?_getD, List.getElem?_append_right (by simp; omega)]
        simp [Nat.min_eq_left hi]
      rw [rdP, hg, Int.toNat_natCast, List.set_append_right _ _ (by simp; omega)]
      have e3 : i - ((l.map un).take i).length = 0 := by simp; omega
      have hd : l.drop i = l[i] :: l.drop (i + 1) := List.drop_eq_getElem_cons h
      have hp : pg l i = l[i] := by unfold pg; rw [List.getD_eq_getElem?_getD, List.getElem?_eq_getElem h]; rfl
      rw [e3, hd, hp, List.set_cons_zero, List.take_succ_eq_append_getElem (by simpa using h), List.append_assoc]
      simp [un]
    · have e : i = l.length := by omega
      subst e
      refine Ev.step (f := fun _ => some (l.map un)) (fun k => ?_) (Ev.now _)
      simp only [vm.l0]
      refine Eq.trans (if_neg (by omega)) ?_
      rw [List.take_of_length_le (by simp), List.drop_length, List.append_nil]
theorem plainUn_is (l : List vA) (hl : l.length ≤ 1000) : Ev (fun k => vm.f k l) (l.map un) := by
  unfold vm.f
  refine Ev_bindO (cloneP l hl) ?_
  have := plainUn_go l hl l.length 0 (by omega) (by omega)
  exact this
end Go.Proofs.YtalpmbeddldfoaaDoor.PA
