/- Pairs that may be in the older schema; what a look for a key tells. -/
import Derived.Test.YtalpmbeddldfoaaDoorPOlder
import Derived.Test.YtalpmbeddldfoaaDoorPCheck
set_option linter.unusedVariables false
set_option linter.unusedSimpArgs false
namespace Go.Proofs.YtalpmbeddldfoaaDoor.PA
open Go.RowKit Go.IntWalk Go.Proofs.YtalpmbeddldfoaaDoorW.PrintWords Go.Proofs.YtalpmbeddldfoaaDoor.Hand
def KeyOk (s : ByteArray) : Prop := Ev (fun k => qv.f k s) true
def ValOk (s : ByteArray) : Prop := Ev (fun k => qw.f k s) true
def Ok1 (l : List vA) : Prop := (∀ j, j < l.length → KeyOk (pg l j).f0 ∧ ValOk (pg l j).f1 ∧ (pg l j).f2 = 0) ∧ l.length ≤ 64 ∧ UpP l
theorem rise_true (l : List vA) (hl : l.length ≤ 1000) (hu : UpP l) : ∀ (m i : Nat), 1 ≤ i → l.length ≤ i + m → Ev (fun k => qL.l0 k l (i : Int)) true
  | m, i, h1, h2 => by
    by_cases h : i < l.length
    · obtain ⟨m, rfl⟩ : ∃ m', m = m' + 1 := ⟨m - 1, by omega⟩
      have e1 := wrap_down i h1 (by omega)
      have e2 := zu i (by omega)
      have hc := hu i h1 h
      refine Ev.step (fun k => ?_) (rise_true l hl hu m (i + 1) (by omega) (by omega))
      simp only [qL.l0, e1, e2, rdP]
      ((repeat (first | refine Eq.trans (if_pos (by first | assumption | omega | trivial | exact decide_eq_true (by first | assumption | omega) | (simp only [decide_eq_true_eq]; first | assumption | omega) | (simp; done) | (simp; omega))) ?_ | refine Eq.trans (if_neg (by first | assumption | omega | (intro hh; have := of_decide_eq_true hh; first | contradiction | omega) | (simp only [decide_eq_true_eq]; first | assumption | omega) | (simp; done) | (simp; omega))) ?_)); try rfl)
    · refine Ev.step (f := fun _ => some true) (fun k => ?_) (Ev.now _)
      simp only [qL.l0]
      ((repeat (first | refine Eq.trans (if_pos (by first | assumption | omega | trivial | exact decide_eq_true (by first | assumption | omega) | (simp only [decide_eq_true_eq]; first | assumption | omega) | (simp; done) | (simp; omega))) ?_ | refine Eq.trans (if_neg (by first | assumption | omega | (intro hh; have := of_decide_eq_true hh; first | contradiction | omega) | (simp only [decide_eq_true_eq]; first | assumption | omega) | (simp; done) | (simp; omega))) ?_)); try rfl)
theorem check1_step (l : List vA) (i : Nat) (h : i < l.length) (hl : l.length ≤ 1000) : ∀ k, qo.l0 (k + 1) 1 l (i : Int) = (qv.f k (pg l i).f0).bind fun t => (if t = true then ((qw.f k (pg l i).f1).bind fun t2 => (qo.j1 k 1 l (i : Int) (!t2))) else (qo.j1 k 1 l (i : Int) true)) := fun k => by
  simp only [qo.l0, rdP]
  ((repeat (first | refine Eq.trans (if_pos (by first | assumption | omega | trivial | exact decide_eq_true (by first | assumption | omega) | (simp only [decide_eq_true_eq]; first | assumption | omega) | (simp; done) | (simp; omega))) ?_ | refine Eq.trans (if_neg (by first | assumption | omega | (intro hh; have := of_decide_eq_true hh; first | contradiction | omega) | (simp only [decide_eq_true_eq]; first | assumption | omega) | (simp; done) | (simp; omega))) ?_)); try rfl)
theorem check1_bad (l : List vA) (i : Nat) : Ev (fun k => qo.j1 k 1 l (i : Int) true) false := Ev.step (f := fun _ => some false) (fun k => by simp only [qo.j1]; ((repeat (first | refine Eq.trans (if_pos (by first | assumption | omega | trivial | exact decide_eq_true (by first | assumption | omega) | (simp only [decide_eq_true_eq]; first | assumption | omega) | (simp; done) | (simp; omega))) ?_ | refine Eq.trans (if_neg (by first | assumption | omega | (intro hh; have := of_decide_eq_true hh; first | contradiction | omega) | (simp only [decide_eq_true_eq]; first | assumption | omega) | (simp; done) | (simp; omega))) ?_)); try rfl)) (Ev.now _)
theorem check1_loop (l : List vA) (hl : l.length ≤ 1000) (hz : ∀ j, j < l.length → (pg l j).f0.size ≤ 200 ∧ (pg l j).f1.size ≤ 200) : ∀ (m i : Nat), l.length ≤ i + m → (∀ j, j < i → j < l.length → KeyOk (pg l j).f0 ∧ ValOk (pg l j).f1 ∧ (pg l j).f2 = 0) →
    ∃ b, Ev (fun k => qo.l0 k 1 l (i : Int)) b ∧ (b = true → Ok1 l)
  | m, i, hm, hr => by
    by_cases h : i < l.length
    · obtain ⟨m, rfl⟩ : ∃ m', m = m' + 1 := ⟨m - 1, by omega⟩
      have e2 := zu i (by omega)
      obtain ⟨hz0, hz1⟩ := hz i h
      obtain ⟨b1, h1⟩ := key_ev (pg l i).f0 (by omega)
      have wt := check1_bad l i
      have st := check1_step l i h hl
      cases b1
      · refine ⟨false, Ev.step st ?_, by simp⟩
        exact h1.bind (vw (by simp) wt)
      · obtain ⟨b2, h2⟩ := val_ev (pg l i).f1 (by omega)
        cases b2
        · refine ⟨false, Ev.step st ?_, by simp⟩
          exact h1.bind (vp rfl (h2.bind wt))
        · by_cases c1 : (pg l i).f2 = 0
          · obtain ⟨b, hb, hs⟩ := check1_loop l hl hz m (i + 1) (by omega) (fun j hj hk => by
              by_cases e : j = i
              · subst e; exact ⟨h1, h2, c1⟩
              · exact hr j (by omega) hk)
            refine ⟨b, Ev.step st ?_, hs⟩
            refine h1.bind (vp rfl (h2.bind ?_))
            exact Ev.step (fun k => by simp only [qo.j1, rdP, e2]; ((repeat (first | refine Eq.trans (if_pos (by first | assumption | omega | trivial | exact decide_eq_true (by first | assumption | omega) | (simp only [decide_eq_true_eq]; first | assumption | omega) | (simp; done) | (simp; omega))) ?_ | refine Eq.trans (if_neg (by first | assumption | omega | (intro hh; have := of_decide_eq_true hh; first | contradiction | omega) | (simp only [decide_eq_true_eq]; first | assumption | omega) | (simp; done) | (simp; omega))) ?_)); try rfl)) hb
          · refine ⟨false, Ev.step st ?_, by simp⟩
            refine h1.bind (vp rfl (h2.bind ?_))
            exact Ev.step (f := fun _ => some false) (fun k => by simp only [qo.j1, rdP]; ((repeat (first | refine Eq.trans (if_pos (by first | assumption | omega | trivial | exact decide_eq_true (by first | assumption | omega) | (simp only [decide_eq_true_eq]; first | assumption | omega) | (simp; done) | (simp; omega))) ?_ | refine Eq.trans (if_neg (by first | assumption | omega | (intro hh; have := of_decide_eq_true hh; first | contradiction | omega) | (simp only [decide_eq_true_eq]; first | assumption | omega) | (simp; done) | (simp; omega))) ?_)); try rfl)) (Ev.now _)
    · by_cases c : (l.length : Int) ≤ 64
      · obtain ⟨b, hb, hs⟩ := riseP_ev l hl
        refine ⟨b, Ev.step (fun k => ?_) (hb.bind (Ev.now _)), fun e => ⟨fun j hj => hr j (by omega) hj, by omega, hs e⟩⟩
        simp only [qo.l0]
        ((repeat (first | refine Eq.trans (if_pos (by first | assumption | omega | trivial | exact decide_eq_true (by first | assumption | omega) | (simp only [decide_eq_true_eq]; first | assumption | omega) | (simp; done) | (simp; omega))) ?_ | refine Eq.trans (if_neg (by first | assumption | omega | (intro hh; have := of_decide_eq_true hh; first | contradiction | omega) | (simp only [decide_eq_true_eq]; first | assumption | omega) | (simp; done) | (simp; omega))) ?_)); try rfl)
      · refine ⟨false, Ev.step (f := fun _ => some false) (fun k => ?_) (Ev.now _), by simp⟩
        simp only [qo.l0]
        ((repeat (first | refine Eq.trans (if_pos (by first | assumption | omega | trivial | exact decide_eq_true (by first | assumption | omega) | (simp only [decide_eq_true_eq]; first | assumption | omega) | (simp; done) | (simp; omega))) ?_ | refine Eq.trans (if_neg (by first | assumption | omega | (intro hh; have := of_decide_eq_true hh; first | contradiction | omega) | (simp only [decide_eq_true_eq]; first | assumption | omega) | (simp; done) | (simp; omega))) ?_)); try rfl)
theorem check1_ev (l : List vA) (hl : l.length ≤ 1000) (hz : ∀ j, j < l.length → (pg l j).f0.size ≤ 200 ∧ (pg l j).f1.size ≤ 200) : ∃ b, Ev (fun k => qo.f k 1 l) b ∧ (b = true → Ok1 l) :=
  check1_loop l hl hz l.length 0 (by omega) (fun j hj _ => by omega)
theorem check1_true (l : List vA) (ho : Ok1 l) : ∀ (m i : Nat), l.length ≤ i + m → Ev (fun k => qo.l0 k 1 l (i : Int)) true
  | m, i, hm => by
    obtain ⟨hr, h64, hu⟩ := ho
    by_cases h : i < l.length
    · obtain ⟨m, rfl⟩ : ∃ m', m = m' + 1 := ⟨m - 1, by omega⟩
      have e2 := zu i (by omega)
      obtain ⟨h1, h2, c1⟩ := hr i h
      have st := check1_step l i h (by omega)
      refine Ev.step st (Ev.bind h1 (vp rfl (Ev.bind h2 ?_)))
      exact Ev.step (fun k => by simp only [qo.j1, rdP, e2]; ((repeat (first | refine Eq.trans (if_pos (by first | assumption | omega | trivial | exact decide_eq_true (by first | assumption | omega) | (simp only [decide_eq_true_eq]; first | assumption | omega) | (simp; done) | (simp; omega))) ?_ | refine Eq.trans (if_neg (by first | assumption | omega | (intro hh; have := of_decide_eq_true hh; first | contradiction | omega) | (simp only [decide_eq_true_eq]; first | assumption | omega) | (simp; done) | (simp; omega))) ?_)); try rfl)) (check1_true l ⟨hr, h64, hu⟩ m (i + 1) (by omega))
    · have hb := rise_true l (by omega) hu l.length 1 (by omega) (by omega)
      refine Ev.step (fun k => ?_) (Ev.bind (g := fun k => qL.f k l) hb (Ev.now _))
      simp only [qo.l0]
      ((repeat (first | refine Eq.trans (if_pos (by first | assumption | omega | trivial | exact decide_eq_true (by first | assumption | omega) | (simp only [decide_eq_true_eq]; first | assumption | omega) | (simp; done) | (simp; omega))) ?_ | refine Eq.trans (if_neg (by first | assumption | omega | (intro hh; have := of_decide_eq_true hh; first | contradiction | omega) | (simp only [decide_eq_true_eq]; first | assumption | omega) | (simp; done) | (simp; omega))) ?_)); try rfl)
def fnd (l : List vA) (c : List UInt8) : ByteArray × ByteArray × Int × Bool :=
  match l.find? (fun x => x.f0.toList == c) with
  | some x => (x.f0, x.f1, x.f2, true)
  | none => ((⟨#[]⟩ : ByteArray), (⟨#[]⟩ : ByteArray), 0, false)
theorem pg_at (l : List vA) (i : Nat) (h : i < l.length) : pg l i = l[i] := by
  unfold pg; rw [List.getD_eq_getElem?_getD, List.getElem?_eq_getElem h]; rfl
theorem fnd_ev (l : List vA) (c : ByteArray) (hl : l.length ≤ 1000) (hu : UpP l) : Ev (fun k => vC.f k l c) (fnd l c.toList) := by
  obtain ⟨r, ha, _⟩ := placeP_ev l c hl hu
  refine zM (findP_at l c hl hu ha) ?_
  unfold fnd
  by_cases h : r < l.length ∧ kk l r = c.toList
  · have hf : l.find? (fun x => x.f0.toList == c.toList) = some (pg l r) := by
      rw [List.find?_eq_some_iff_getElem]
      refine ⟨beq_iff_eq.mpr h.2, r, h.1, (pg_at l r h.1).symm, fun j hj => ?_⟩
      have hlo := ha.lo j hj
      have : ¬ kk l j = c.toList := fun e => less_irrefl _ (e ▸ hlo)
      have hp := pg_at l j (by omega)
      simp only [Bool.not_eq_eq_eq_not, Bool.not_true, beq_eq_false_iff_ne, ne_eq]
      rw [← hp]
      exact this
    rw [hf, if_pos h]
  · have hn : l.find? (fun x => x.f0.toList == c.toList) = none := by
      rw [List.find?_eq_none]
      intro x hx
      obtain ⟨j, hj, rfl⟩ := List.getElem_of_mem hx
      rcases ha.dec hu with h' | h'
      · exact absurd h' h
      · have := h' j hj
        rw [← pg_at l j hj]
        exact fun e => this (beq_iff_eq.mp e)
    rw [hn, if_neg h]
theorem fnd_none (l : List vA) (c : List UInt8) (h : ∀ j, j < l.length → kk l j ≠ c) : (fnd l c).2.2.2 = false := by
  unfold fnd
  have hn : l.find? (fun x => x.f0.toList == c) = none := by
    rw [List.find?_eq_none]
    intro x hx
    obtain ⟨j, hj, rfl⟩ := List.getElem_of_mem hx
    have := h j hj
    rw [← pg_at l j hj]
    exact fun e => this (beq_iff_eq.mp e)
  rw [hn]
end Go.Proofs.YtalpmbeddldfoaaDoor.PA
