/- The pair tables with one more, one less; without revisions. -/
import Derived.Test.YtalpmbeddldfoaaDoorPPair
import Derived.Test.YtalpmbeddldfoaaDoorFKvoneDo
import Derived.Test.YtalpmbeddldfoaaDoorFKvonePut
import Derived.Test.YtalpmbeddldfoaaDoorFKvoneDel
import Derived.Test.YtalpmbeddldfoaaDoorFApiPair144
set_option linter.unusedVariables false
set_option linter.unusedSimpArgs false
namespace Go.Proofs.YtalpmbeddldfoaaDoor.PA
open Go.RowKit Go.IntWalk Go.Proofs.YtalpmbeddldfoaaDoorW.PrintWords Go.Proofs.YtalpmbeddldfoaaDoor.Hand
theorem putP_set {l : List vA} {r : Nat} {x : vA} (h : r < l.length ∧ kk l r = x.f0.toList) (j : Nat) : pg (zW l r x) j = if j = r then x else pg l j := by
  unfold zW pg
  rw [if_pos h, List.getD_eq_getElem?_getD, List.getElem?_set]
  by_cases e : r = j
  · subst e; simp [h.1]
  · simp [e, Ne.symm e]
theorem putP_ins {l : List vA} {r : Nat} {x : vA} (hr : r ≤ l.length) (h : ¬ (r < l.length ∧ kk l r = x.f0.toList)) (j : Nat) : pg (zW l r x) j = if j < r then pg l j else if j = r then x else pg l (j - 1) := by
  unfold zW
  rw [if_neg h]
  unfold pg
  rw [List.getD_eq_getElem?_getD, List.getElem?_append, List.length_take, Nat.min_eq_left hr]
  by_cases h1 : j < r
  · rw [if_pos h1, if_pos h1, List.getElem?_take, if_pos h1, List.getD_eq_getElem?_getD]
  · rw [if_neg h1, if_neg h1]
    by_cases h2 : j = r
    · subst h2; simp
    · rw [if_neg h2, List.getElem?_append, if_neg (by simp; omega), List.getElem?_drop, List.getD_eq_getElem?_getD]
      congr 2
      simp
      omega
theorem putP_len (l : List vA) (r : Nat) (x : vA) (hr : r ≤ l.length) : l.length ≤ (zW l r x).length ∧ (zW l r x).length ≤ l.length + 1 ∧ r < (zW l r x).length := by
  unfold zW
  by_cases h : r < l.length ∧ kk l r = x.f0.toList
  · rw [if_pos h]; simp; exact h.1
  · rw [if_neg h]; simp; omega
theorem putP_up {l : List vA} {r : Nat} {x : vA} (hu : UpP l) (ha : AtP l x.f0.toList r) : UpP (zW l r x) ∧ AtP (zW l r x) x.f0.toList r ∧ pg (zW l r x) r = x := by
  have hlen := putP_len l r x ha.le
  by_cases h : r < l.length ∧ kk l r = x.f0.toList
  · have hf : ∀ j, kk (zW l r x) j = kk l j := fun j => by
      show (pg (zW l r x) j).f0.toList = _
      rw [putP_set h]
      by_cases e : j = r
      · subst e; rw [if_pos rfl]; exact h.2.symm
      · rw [if_neg e]
    have hl : (zW l r x).length = l.length := by unfold zW; rw [if_pos h]; simp
    refine ⟨fun j h1 h2 => ?_, ⟨by omega, fun j hj => ?_, fun j hj hk => ?_⟩, by rw [putP_set h, if_pos rfl]⟩
    · rw [hf, hf]; exact hu j h1 (by omega)
    · rw [hf]; exact ha.lo j hj
    · rw [hf]; exact ha.hi j hj (by omega)
  · have hl : (zW l r x).length = l.length + 1 := by unfold zW; rw [if_neg h]; simp; have := ha.le; omega
    have hle := ha.le
    have hgt : ∀ j, r ≤ j → j < l.length → Op.bytesLess x.f0.toList (kk l j) = true := fun j h1 h2 => by
      rcases (ha.dec hu) with h' | h'
      · exact absurd h' h
      · have h3 := h' j h2
        have h4 := ha.hi j h1 h2
        exact Classical.byContradiction fun h5 => h3 (less_tri h4 h5)
    refine ⟨fun j h1 h2 => ?_, ⟨by omega, fun j hj => ?_, fun j hj hk => ?_⟩, by rw [putP_ins hle h, if_neg (by omega), if_pos rfl]⟩
    · show Op.bytesLess (pg _ (j - 1)).f0.toList (pg _ j).f0.toList = true
      rw [putP_ins hle h, putP_ins hle h]
      by_cases e1 : j < r
      · rw [if_pos (by omega), if_pos e1]; exact hu j h1 (by omega)
      · by_cases e2 : j = r
        · subst e2; rw [if_pos (by omega), if_neg e1, if_pos rfl]; exact ha.lo (j - 1) (by omega)
        · rw [if_neg e1, if_neg e2, if_neg (by omega)]
          by_cases e3 : j - 1 = r
          · rw [if_pos e3]; exact hgt (j - 1) (by omega) (by omega)
          · rw [if_neg e3]; exact hu (j - 1) (by omega) (by omega)
    · show Op.bytesLess (pg _ j).f0.toList _ = true
      rw [putP_ins hle h, if_pos hj]; exact ha.lo j hj
    · show ¬ Op.bytesLess (pg _ j).f0.toList _ = true
      rw [putP_ins hle h, if_neg (by omega)]
      by_cases e : j = r
      · rw [if_pos e]; exact less_irrefl _
      · rw [if_neg e]
        intro hh
        exact less_irrefl _ (less_trans hh (hgt (j - 1) (by omega) (by omega)))
end Go.Proofs.YtalpmbeddldfoaaDoor.PA
