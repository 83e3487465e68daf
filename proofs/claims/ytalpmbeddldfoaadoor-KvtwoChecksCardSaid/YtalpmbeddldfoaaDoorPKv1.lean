/- Which pairs may be in the older schema: the program's check and the reference's. -/
import Derived.Test.YtalpmbeddldfoaaDoorPChk1
import Derived.Test.YtalpmbeddldfoaaDoorPKeyVal
import Derived.Test.YtalpmbeddldfoaaDoorFKvoneCheck
set_option linter.unusedVariables false
set_option linter.unusedSimpArgs false
namespace Go.Proofs.YtalpmbeddldfoaaDoor.PA
open Go.RowKit Go.IntWalk Go.Proofs.YtalpmbeddldfoaaDoorW.PrintWords Go.Proofs.YtalpmbeddldfoaaDoor.Hand
theorem refChk1_ev (l : List vA) (hl : l.length ≤ 1000) (hz : ∀ j, j < l.length → (pg l j).f0.size ≤ 200 ∧ (pg l j).f1.size ≤ 200) : ∃ b, Ev (fun k => qo.f k 1 l) b ∧ (b = true ↔ Ok1 l) := by
  obtain ⟨b, hb, hs⟩ := check1_ev l hl hz
  exact ⟨b, hb, hs, fun ho => Ev_uniq hb (check1_true l ho l.length 0 (by omega))⟩
theorem rKey_ev (s : ByteArray) (hb : s.size ≤ 1073741824) : Ev (fun k => vV.f k s) (keyB s) := by
  unfold vV.f
  exact vw (by omega) ((refKey_ev s hb).bind (Ev.now _))
theorem rVal_ev (s : ByteArray) (hb : s.size ≤ 1073741824) : Ev (fun k => vU.f k s) (valB s) := by
  unfold vU.f
  exact vw (by omega) ((refVal_ev s hb).bind (Ev.now _))
theorem keyOk_iff (s : ByteArray) (hb : s.size ≤ 1073741824) : KeyOk s ↔ keyB s = true := ⟨fun h => Ev_uniq (refKey_ev s hb) h, fun h => by unfold KeyOk; rw [← h]; exact refKey_ev s hb⟩
theorem valOk_iff (s : ByteArray) (hb : s.size ≤ 1073741824) : ValOk s ↔ valB s = true := ⟨fun h => Ev_uniq (refVal_ev s hb) h, fun h => by unfold ValOk; rw [← h]; exact refVal_ev s hb⟩
theorem kv_step (l : List vA) (i : Nat) (h : i < l.length) (hl : l.length ≤ 1000) : ∀ k, qR.l0 (k + 1) l l (l.length : Int) (i : Int) =
    if 1 ≤ i ∧ ¬ Op.bytesLess (kk l (i - 1)) (kk l i) = true then some 3 else ((vV.f k (pg l i).f0).bind fun t => (if t = true then ((vU.f k (pg l i).f1).bind fun t => (if t = true then (if (pg l i).f2 = 0 then qR.l0 k l l (l.length : Int) ((i + 1 : Nat) : Int) else some 3) else some 3)) else some 3)) := fun k => by
  have e2 := zu i (by omega)
  by_cases h1 : 1 ≤ i
  · have e1 := wrap_down i h1 (by omega)
    by_cases hc : Op.bytesLess (kk l (i - 1)) (kk l i) = true
    · rw [if_neg (fun hh => hh.2 hc)]
      simp only [qR.l0, e1, e2, rdP]
      ((repeat (first | refine Eq.trans (if_pos (by first | assumption | omega | trivial | exact decide_eq_true (by first | assumption | omega) | (simp only [decide_eq_true_eq]; first | assumption | omega) | (simp; done) | (simp; omega))) ?_ | refine Eq.trans (if_neg (by first | assumption | omega | (intro hh; have := of_decide_eq_true hh; first | contradiction | omega) | (simp only [decide_eq_true_eq]; first | assumption | omega) | (simp; done) | (simp; omega))) ?_)); try rfl)
    · rw [if_pos ⟨h1, hc⟩]
      simp only [qR.l0, e1, e2, rdP]
      ((repeat (first | refine Eq.trans (if_pos (by first | assumption | omega | trivial | exact decide_eq_true (by first | assumption | omega) | (simp only [decide_eq_true_eq]; first | assumption | omega) | (simp; done) | (simp; omega))) ?_ | refine Eq.trans (if_neg (by first | assumption | omega | (intro hh; have := of_decide_eq_true hh; first | contradiction | omega) | (simp only [decide_eq_true_eq]; first | assumption | omega) | (simp; done) | (simp; omega))) ?_)); try rfl)
  · rw [if_neg (fun hh => h1 hh.1)]
    simp only [qR.l0, e2, rdP]
    ((repeat (first | refine Eq.trans (if_pos (by first | assumption | omega | trivial | exact decide_eq_true (by first | assumption | omega) | (simp only [decide_eq_true_eq]; first | assumption | omega) | (simp; done) | (simp; omega))) ?_ | refine Eq.trans (if_neg (by first | assumption | omega | (intro hh; have := of_decide_eq_true hh; first | contradiction | omega) | (simp only [decide_eq_true_eq]; first | assumption | omega) | (simp; done) | (simp; omega))) ?_)); try rfl)
theorem kvChk_loop (l : List vA) (hl : l.length ≤ 64) (hz : ∀ j, j < l.length → (pg l j).f0.size ≤ 200 ∧ (pg l j).f1.size ≤ 200) : ∀ (m i : Nat), l.length ≤ i + m → (∀ j, j < i → j < l.length → KeyOk (pg l j).f0 ∧ ValOk (pg l j).f1 ∧ (pg l j).f2 = 0) → (∀ j, 1 ≤ j → j < i → j < l.length → Op.bytesLess (kk l (j - 1)) (kk l j) = true) →
    ∃ r : Int, Ev (fun k => qR.l0 k l l (l.length : Int) (i : Int)) r ∧ ((r = 0 ∧ Ok1 l) ∨ (r = 3 ∧ ¬ Ok1 l))
  | m, i, hm, h3, h4 => by
    by_cases h : i < l.length
    · obtain ⟨m, rfl⟩ : ∃ m', m = m' + 1 := ⟨m - 1, by omega⟩
      obtain ⟨hz0, hz1⟩ := hz i h
      have hk := rKey_ev (pg l i).f0 (by omega)
      have hv := rVal_ev (pg l i).f1 (by omega)
      have st := kv_step l i h (by omega)
      by_cases hu : 1 ≤ i ∧ ¬ Op.bytesLess (kk l (i - 1)) (kk l i) = true
      · refine ⟨3, Ev.step st (vp hu (Ev.now _)), .inr ⟨rfl, fun hg => hu.2 (hg.2.2 i hu.1 h)⟩⟩
      · by_cases c1 : keyB (pg l i).f0 = true
        · by_cases c2 : valB (pg l i).f1 = true
          · by_cases c3 : (pg l i).f2 = 0
            · obtain ⟨b, hb, hs⟩ := kvChk_loop l hl hz m (i + 1) (by omega) (fun j hj hq => by
                by_cases e : j = i
                · subst e; exact ⟨(keyOk_iff _ (by omega)).mpr c1, (valOk_iff _ (by omega)).mpr c2, c3⟩
                · exact h3 j (by omega) hq) (fun j hj hq hn => by
                by_cases e : j = i
                · subst e; exact Classical.byContradiction fun hh => hu ⟨hj, hh⟩
                · exact h4 j hj (by omega) hn)
              exact ⟨b, Ev.step st (vw hu (hk.bind (vp c1 (hv.bind (vp c2 (vp c3 hb)))))), hs⟩
            · exact ⟨3, Ev.step st (vw hu (hk.bind (vp c1 (hv.bind (vp c2 (vw c3 (Ev.now _))))))), .inr ⟨rfl, fun hg => c3 (hg.1 i h).2.2⟩⟩
          · exact ⟨3, Ev.step st (vw hu (hk.bind (vp c1 (hv.bind (vw c2 (Ev.now _)))))), .inr ⟨rfl, fun hg => c2 ((valOk_iff _ (by omega)).mp (hg.1 i h).2.1)⟩⟩
        · exact ⟨3, Ev.step st (vw hu (hk.bind (vw c1 (Ev.now _)))), .inr ⟨rfl, fun hg => c1 ((keyOk_iff _ (by omega)).mp (hg.1 i h).1)⟩⟩
    · refine ⟨0, Ev.step (f := fun _ => some 0) (fun k => by simp only [qR.l0]; ((repeat (first | refine Eq.trans (if_pos (by first | assumption | omega | trivial | exact decide_eq_true (by first | assumption | omega) | (simp only [decide_eq_true_eq]; first | assumption | omega) | (simp; done) | (simp; omega))) ?_ | refine Eq.trans (if_neg (by first | assumption | omega | (intro hh; have := of_decide_eq_true hh; first | contradiction | omega) | (simp only [decide_eq_true_eq]; first | assumption | omega) | (simp; done) | (simp; omega))) ?_)); try rfl)) (Ev.now _), .inl ⟨rfl, fun j hj => h3 j (by omega) hj, by omega, fun j ha hb => h4 j ha (by omega) hb⟩⟩
theorem kvChk_ev (l : List vA) (hl : l.length ≤ 1000) (hz : ∀ j, j < l.length → (pg l j).f0.size ≤ 200 ∧ (pg l j).f1.size ≤ 200) : ∃ r : Int, Ev (fun k => qR.f k l) r ∧ ((r = 0 ∧ Ok1 l) ∨ (r = 3 ∧ ¬ Ok1 l)) := by
  unfold qR.f
  by_cases h : l.length ≤ 64
  · obtain ⟨r, hr, hs⟩ := kvChk_loop l h hz l.length 0 (by omega) (fun j hj _ => by omega) (fun j _ hj _ => by omega)
    exact ⟨r, vw (by omega) hr, hs⟩
  · exact ⟨3, vp (by omega) (Ev.now _), .inr ⟨rfl, fun hg => h hg.2.1⟩⟩
end Go.Proofs.YtalpmbeddldfoaaDoor.PA
