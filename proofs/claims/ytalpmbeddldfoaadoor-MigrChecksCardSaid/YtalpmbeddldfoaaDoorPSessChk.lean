/- Which sessions may be. -/
import Derived.Test.YtalpmbeddldfoaaDoorPChk1
import Derived.Test.YtalpmbeddldfoaaDoorR
import Derived.Test.YtalpmbeddldfoaaDoorFSessCheck
import Derived.Test.YtalpmbeddldfoaaDoorFChangeoverref22Check
import Derived.Test.YtalpmbeddldfoaaDoorFApiPair76
set_option linter.unusedVariables false
set_option linter.unusedSimpArgs false
namespace Go.Proofs.YtalpmbeddldfoaaDoor.PA
open Go.RowKit Go.IntWalk Go.Proofs.YtalpmbeddldfoaaDoorW.PrintWords Go.Proofs.YtalpmbeddldfoaaDoor.Hand
abbrev sg (l : List zo) (i : Nat) : zo := l.getD i z74
theorem rdS (l : List zo) (i : Nat) : qf l (i : Int) = sg l i := rfl
def Up (l : List zo) : Prop := ∀ j, 1 ≤ j → j < l.length → (sg l (j - 1)).f0 < (sg l j).f0
theorem VS (l : List zo) (hl : l.length ≤ 1000) : ∀ (m i : Nat), 1 ≤ i → l.length ≤ i + m → (∀ j, 1 ≤ j → j < i → j < l.length → (sg l (j - 1)).f0 < (sg l j).f0) →
 ∃ b, Ev (fun k => qV.l0 k l (i : Int)) b ∧ (b = true ↔ Up l)
 | m, i, h1, h2, h3 => by
  by_cases h : i < l.length
  ·obtain ⟨m, rfl⟩ : ∃ m', m = m' + 1 := ⟨m - 1, by omega⟩
   have e1 := jP i h1 (by omega)
   have e2 := zt i (by omega)
   by_cases hc : (sg l (i - 1)).f0 < (sg l i).f0
   ·obtain ⟨b, hb, hs⟩ := VS l hl m (i + 1) (by omega) (by omega) (fun j ha hb hd => by
     by_cases e : j = i
     ·subst e; exact hc
     ·exact h3 j ha (by omega) hd)
    refine ⟨b, Ev.step (fun k => ?_) hb, hs⟩
    simp only [qV.l0, e1, e2, rdS]
    ((repeat(first|refine Eq.trans (if_pos (by first|assumption|omega|trivial|exact decide_eq_true (by first|assumption|omega)|(simp only[decide_eq_true_eq];first|assumption|omega)|(simp;done)|(simp;omega))) ?_|refine Eq.trans (if_neg (by first|assumption|omega|(intro hh;have:=of_decide_eq_true hh;first|contradiction|omega)|(simp only[decide_eq_true_eq];first|assumption|omega)|(simp;done)|(simp;omega))) ?_));try rfl)
   ·refine ⟨false, Ev.step (f := fun _ => some false) (fun k => ?_) (Ev.now _), by simp; exact fun hu => hc (hu i h1 h)⟩
    simp only [qV.l0, e1, e2, rdS]
    ((repeat(first|refine Eq.trans (if_pos (by first|assumption|omega|trivial|exact decide_eq_true (by first|assumption|omega)|(simp only[decide_eq_true_eq];first|assumption|omega)|(simp;done)|(simp;omega))) ?_|refine Eq.trans (if_neg (by first|assumption|omega|(intro hh;have:=of_decide_eq_true hh;first|contradiction|omega)|(simp only[decide_eq_true_eq];first|assumption|omega)|(simp;done)|(simp;omega))) ?_));try rfl)
  ·refine ⟨true, Ev.step (f := fun _ => some true) (fun k => ?_) (Ev.now _), by simp; exact fun j ha hb => h3 j ha (by omega) hb⟩
   simp only [qV.l0]
   ((repeat(first|refine Eq.trans (if_pos (by first|assumption|omega|trivial|exact decide_eq_true (by first|assumption|omega)|(simp only[decide_eq_true_eq];first|assumption|omega)|(simp;done)|(simp;omega))) ?_|refine Eq.trans (if_neg (by first|assumption|omega|(intro hh;have:=of_decide_eq_true hh;first|contradiction|omega)|(simp only[decide_eq_true_eq];first|assumption|omega)|(simp;done)|(simp;omega))) ?_));try rfl)
theorem rise2_ev (l : List zo) (hl : l.length ≤ 1000) : ∃ b, Ev (fun k => qV.f k l) b ∧ (b = true ↔ Up l) :=
 VS l hl l.length 1 (by omega) (by omega) (fun j ha hb _ => by omega)
def okS (x : zo) : Prop := x.f2.f0 = x.f0 ∧ x.f2.f1 = x.f1 ∧ jR x.f2.f0 x.f2.f1 x.f2.f2 x.f2.f4 x.f2.f5 = 0
def Vn (l : List zo) : Prop := (∀ j, j < l.length → okS (sg l j)) ∧ Up l
theorem VD (l : List zo) (hl : l.length ≤ 1000) (hz : ∀ j, j < l.length → (sg l j).f2.f4.size ≤ 1073741824) : ∀ (m i : Nat), l.length ≤ i + m → (∀ j, j < i → j < l.length → okS (sg l j)) →
 ∃ b, Ev (fun k => qA.l0 k l (i : Int)) b ∧ (b = true ↔ Vn l)
 | m, i, hm, h3 => by
  by_cases h : i < l.length
  ·obtain ⟨m, rfl⟩ : ∃ m', m = m' + 1 := ⟨m - 1, by omega⟩
   have e2 := zt i (by omega)
   have ha := refAns_ev (sg l i).f2.f0 (sg l i).f2.f1 (sg l i).f2.f2 (sg l i).f2.f3 (sg l i).f2.f4 (sg l i).f2.f5 (hz i h)
   by_cases hc : okS (sg l i)
   ·obtain ⟨b, hb, hs⟩ := VD l hl hz m (i + 1) (by omega) (fun j hj hk => by
     by_cases e : j = i
     ·subst e; exact hc
     ·exact h3 j (by omega) hk)
    obtain ⟨q1, q2, q3⟩ := hc
    have st : ∀ k, qA.l0 (k + 1) l (i : Int) = ((qF.f k (sg l i).f2.f0 (sg l i).f2.f1 (sg l i).f2.f2 (sg l i).f2.f3 (sg l i).f2.f4 (sg l i).f2.f5).bind fun t => (if t = 0 then qA.l0 k l ((i + 1 : Nat) : Int) else some false)) := fun k => by
     simp only [qA.l0, e2, rdS]
     ((repeat(first|refine Eq.trans (if_pos (by first|assumption|omega|trivial|exact decide_eq_true (by first|assumption|omega)|(simp only[decide_eq_true_eq];first|assumption|omega)|(simp;done)|(simp;omega))) ?_|refine Eq.trans (if_neg (by first|assumption|omega|(intro hh;have:=of_decide_eq_true hh;first|contradiction|omega)|(simp only[decide_eq_true_eq];first|assumption|omega)|(simp;done)|(simp;omega))) ?_));try rfl)
    exact ⟨b, Ev.step st (ha.bind (vm q3 hb)), hs⟩
   ·refine ⟨false, ?_, by simp; exact fun hg => hc (hg.1 i h)⟩
    by_cases q1 : (sg l i).f2.f0 = (sg l i).f0
    ·by_cases q2 : (sg l i).f2.f1 = (sg l i).f1
     ·have q3 : ¬ jR (sg l i).f2.f0 (sg l i).f2.f1 (sg l i).f2.f2 (sg l i).f2.f4 (sg l i).f2.f5 = 0 := fun e => hc ⟨q1, q2, e⟩
      have st : ∀ k, qA.l0 (k + 1) l (i : Int) = ((qF.f k (sg l i).f2.f0 (sg l i).f2.f1 (sg l i).f2.f2 (sg l i).f2.f3 (sg l i).f2.f4 (sg l i).f2.f5).bind fun t => (if t = 0 then qA.l0 k l ((i + 1 : Nat) : Int) else some false)) := fun k => by
       simp only [qA.l0, e2, rdS]
       ((repeat(first|refine Eq.trans (if_pos (by first|assumption|omega|trivial|exact decide_eq_true (by first|assumption|omega)|(simp only[decide_eq_true_eq];first|assumption|omega)|(simp;done)|(simp;omega))) ?_|refine Eq.trans (if_neg (by first|assumption|omega|(intro hh;have:=of_decide_eq_true hh;first|contradiction|omega)|(simp only[decide_eq_true_eq];first|assumption|omega)|(simp;done)|(simp;omega))) ?_));try rfl)
      exact Ev.step st (ha.bind (qW q3 (Ev.now _)))
     ·exact Ev.step (f := fun _ => some false) (fun k => by simp only [qA.l0, rdS]; ((repeat(first|refine Eq.trans (if_pos (by first|assumption|omega|trivial|exact decide_eq_true (by first|assumption|omega)|(simp only[decide_eq_true_eq];first|assumption|omega)|(simp;done)|(simp;omega))) ?_|refine Eq.trans (if_neg (by first|assumption|omega|(intro hh;have:=of_decide_eq_true hh;first|contradiction|omega)|(simp only[decide_eq_true_eq];first|assumption|omega)|(simp;done)|(simp;omega))) ?_));try rfl)) (Ev.now _)
    ·exact Ev.step (f := fun _ => some false) (fun k => by simp only [qA.l0, rdS]; ((repeat(first|refine Eq.trans (if_pos (by first|assumption|omega|trivial|exact decide_eq_true (by first|assumption|omega)|(simp only[decide_eq_true_eq];first|assumption|omega)|(simp;done)|(simp;omega))) ?_|refine Eq.trans (if_neg (by first|assumption|omega|(intro hh;have:=of_decide_eq_true hh;first|contradiction|omega)|(simp only[decide_eq_true_eq];first|assumption|omega)|(simp;done)|(simp;omega))) ?_));try rfl)) (Ev.now _)
  ·obtain ⟨b, hb, hs⟩ := rise2_ev l hl
   refine ⟨b, Ev.step (fun k => by simp only [qA.l0]; ((repeat(first|refine Eq.trans (if_pos (by first|assumption|omega|trivial|exact decide_eq_true (by first|assumption|omega)|(simp only[decide_eq_true_eq];first|assumption|omega)|(simp;done)|(simp;omega))) ?_|refine Eq.trans (if_neg (by first|assumption|omega|(intro hh;have:=of_decide_eq_true hh;first|contradiction|omega)|(simp only[decide_eq_true_eq];first|assumption|omega)|(simp;done)|(simp;omega))) ?_));try rfl)) (hb.bind (Ev.now _)), hs.trans ⟨fun hu => ⟨fun j hj => h3 j (by omega) hj, hu⟩, fun hg => hg.2⟩⟩
theorem ref22_ev (l : List zo) (hl : l.length ≤ 1000) (hz : ∀ j, j < l.length → (sg l j).f2.f4.size ≤ 1073741824) : ∃ b, Ev (fun k => qA.f k l) b ∧ (b = true ↔ Vn l) :=
 VD l hl hz l.length 0 (by omega) (fun j hj _ => by omega)
theorem sess_j1 (l : List zo) (i : Nat) (h : i < l.length) (hl : l.length ≤ 1000) : ∀ k, vo.l0 (k + 1) l l (l.length : Int) (i : Int) =
 vo.j1 k l l (l.length : Int) (i : Int) (decide (1 ≤ i ∧ (sg l i).f0 ≤ (sg l (i - 1)).f0)) (sg l i).f0 (sg l i).f1 (sg l i).f2.f0 (sg l i).f2.f1 (sg l i).f2.f2 (sg l i).f2.f3 (sg l i).f2.f4 (sg l i).f2.f5 := fun k => by
 by_cases h1 : 1 ≤ i
 ·have e1 := jP i h1 (by omega)
  have hd : decide (1 ≤ i ∧ (sg l i).f0 ≤ (sg l (i - 1)).f0) = decide ((sg l i).f0 ≤ (sg l (i - 1)).f0) := by simp [h1]
  rw [hd]
  simp only [vo.l0, e1, rdS]
  ((repeat(first|refine Eq.trans (if_pos (by first|assumption|omega|trivial|exact decide_eq_true (by first|assumption|omega)|(simp only[decide_eq_true_eq];first|assumption|omega)|(simp;done)|(simp;omega))) ?_|refine Eq.trans (if_neg (by first|assumption|omega|(intro hh;have:=of_decide_eq_true hh;first|contradiction|omega)|(simp only[decide_eq_true_eq];first|assumption|omega)|(simp;done)|(simp;omega))) ?_));try rfl)
 ·have hd : decide (1 ≤ i ∧ (sg l i).f0 ≤ (sg l (i - 1)).f0) = false := by simp; omega
  rw [hd]
  simp only [vo.l0, rdS]
  ((repeat(first|refine Eq.trans (if_pos (by first|assumption|omega|trivial|exact decide_eq_true (by first|assumption|omega)|(simp only[decide_eq_true_eq];first|assumption|omega)|(simp;done)|(simp;omega))) ?_|refine Eq.trans (if_neg (by first|assumption|omega|(intro hh;have:=of_decide_eq_true hh;first|contradiction|omega)|(simp only[decide_eq_true_eq];first|assumption|omega)|(simp;done)|(simp;omega))) ?_));try rfl)
theorem QP (l : List zo) (hl : l.length ≤ 1000) (hz : ∀ j, j < l.length → (sg l j).f2.f4.size ≤ 1073741824) : ∀ (m i : Nat), l.length ≤ i + m → (∀ j, j < i → j < l.length → okS (sg l j)) → (∀ j, 1 ≤ j → j < i → j < l.length → (sg l (j - 1)).f0 < (sg l j).f0) →
 ∃ r : Int, Ev (fun k => vo.l0 k l l (l.length : Int) (i : Int)) r ∧ ((r = 0 ∧ Vn l) ∨ (r = 3 ∧ ¬ Vn l))
 | m, i, hm, h3, h4 => by
  by_cases h : i < l.length
  ·obtain ⟨m, rfl⟩ : ∃ m', m = m' + 1 := ⟨m - 1, by omega⟩
   have e2 := zt i (by omega)
   have ha := ans_ev (sg l i).f2.f0 (sg l i).f2.f1 (sg l i).f2.f2 (sg l i).f2.f3 (sg l i).f2.f4 (sg l i).f2.f5 (hz i h)
   by_cases hu : 1 ≤ i ∧ (sg l i).f0 ≤ (sg l (i - 1)).f0
   ·refine ⟨3, Ev.step (sess_j1 l i h hl) ?_, .inr ⟨rfl, fun hg => by have := hg.2 i hu.1 h; omega⟩⟩
    rw [decide_eq_true hu]
    exact Ev.step (f := fun _ => some 3) (fun k => by simp only [vo.j1]; ((repeat(first|refine Eq.trans (if_pos (by first|assumption|omega|trivial|exact decide_eq_true (by first|assumption|omega)|(simp only[decide_eq_true_eq];first|assumption|omega)|(simp;done)|(simp;omega))) ?_|refine Eq.trans (if_neg (by first|assumption|omega|(intro hh;have:=of_decide_eq_true hh;first|contradiction|omega)|(simp only[decide_eq_true_eq];first|assumption|omega)|(simp;done)|(simp;omega))) ?_));try rfl)) (Ev.now _)
   ·by_cases hc : okS (sg l i)
    ·obtain ⟨b, hb, hs⟩ := QP l hl hz m (i + 1) (by omega) (fun j hj hk => by
      by_cases e : j = i
      ·subst e; exact hc
      ·exact h3 j (by omega) hk) (fun j hj hk hq => by
      by_cases e : j = i
      ·subst e; omega
      ·exact h4 j hj (by omega) hq)
     obtain ⟨q1, q2, q3⟩ := hc
     refine ⟨b, Ev.step (sess_j1 l i h hl) ?_, hs⟩
     rw [decide_eq_false hu]
     have st : ∀ k, vo.j1 (k + 1) l l (l.length : Int) (i : Int) false (sg l i).f0 (sg l i).f1 (sg l i).f2.f0 (sg l i).f2.f1 (sg l i).f2.f2 (sg l i).f2.f3 (sg l i).f2.f4 (sg l i).f2.f5 = ((qY.f k (sg l i).f2.f0 (sg l i).f2.f1 (sg l i).f2.f2 (sg l i).f2.f3 (sg l i).f2.f4 (sg l i).f2.f5).bind fun t => (if t = 0 then vo.l0 k l l (l.length : Int) ((i + 1 : Nat) : Int) else some 3)) := fun k => by
      simp only [vo.j1, e2]
      ((repeat(first|refine Eq.trans (if_pos (by first|assumption|omega|trivial|exact decide_eq_true (by first|assumption|omega)|(simp only[decide_eq_true_eq];first|assumption|omega)|(simp;done)|(simp;omega))) ?_|refine Eq.trans (if_neg (by first|assumption|omega|(intro hh;have:=of_decide_eq_true hh;first|contradiction|omega)|(simp only[decide_eq_true_eq];first|assumption|omega)|(simp;done)|(simp;omega))) ?_));try rfl)
     exact Ev.step st (ha.bind (vm q3 hb))
    ·refine ⟨3, Ev.step (sess_j1 l i h hl) ?_, .inr ⟨rfl, fun hg => hc (hg.1 i h)⟩⟩
     rw [decide_eq_false hu]
     by_cases q1 : (sg l i).f2.f0 = (sg l i).f0
     ·by_cases q2 : (sg l i).f2.f1 = (sg l i).f1
      ·have q3 : ¬ jR (sg l i).f2.f0 (sg l i).f2.f1 (sg l i).f2.f2 (sg l i).f2.f4 (sg l i).f2.f5 = 0 := fun e => hc ⟨q1, q2, e⟩
       have st : ∀ k, vo.j1 (k + 1) l l (l.length : Int) (i : Int) false (sg l i).f0 (sg l i).f1 (sg l i).f2.f0 (sg l i).f2.f1 (sg l i).f2.f2 (sg l i).f2.f3 (sg l i).f2.f4 (sg l i).f2.f5 = ((qY.f k (sg l i).f2.f0 (sg l i).f2.f1 (sg l i).f2.f2 (sg l i).f2.f3 (sg l i).f2.f4 (sg l i).f2.f5).bind fun t => (if t = 0 then vo.l0 k l l (l.length : Int) ((i + 1 : Nat) : Int) else some 3)) := fun k => by
        simp only [vo.j1, e2]
        ((repeat(first|refine Eq.trans (if_pos (by first|assumption|omega|trivial|exact decide_eq_true (by first|assumption|omega)|(simp only[decide_eq_true_eq];first|assumption|omega)|(simp;done)|(simp;omega))) ?_|refine Eq.trans (if_neg (by first|assumption|omega|(intro hh;have:=of_decide_eq_true hh;first|contradiction|omega)|(simp only[decide_eq_true_eq];first|assumption|omega)|(simp;done)|(simp;omega))) ?_));try rfl)
       exact Ev.step st (ha.bind (qW q3 (Ev.now _)))
      ·exact Ev.step (f := fun _ => some 3) (fun k => by simp only [vo.j1]; ((repeat(first|refine Eq.trans (if_pos (by first|assumption|omega|trivial|exact decide_eq_true (by first|assumption|omega)|(simp only[decide_eq_true_eq];first|assumption|omega)|(simp;done)|(simp;omega))) ?_|refine Eq.trans (if_neg (by first|assumption|omega|(intro hh;have:=of_decide_eq_true hh;first|contradiction|omega)|(simp only[decide_eq_true_eq];first|assumption|omega)|(simp;done)|(simp;omega))) ?_));try rfl)) (Ev.now _)
     ·exact Ev.step (f := fun _ => some 3) (fun k => by simp only [vo.j1]; ((repeat(first|refine Eq.trans (if_pos (by first|assumption|omega|trivial|exact decide_eq_true (by first|assumption|omega)|(simp only[decide_eq_true_eq];first|assumption|omega)|(simp;done)|(simp;omega))) ?_|refine Eq.trans (if_neg (by first|assumption|omega|(intro hh;have:=of_decide_eq_true hh;first|contradiction|omega)|(simp only[decide_eq_true_eq];first|assumption|omega)|(simp;done)|(simp;omega))) ?_));try rfl)) (Ev.now _)
  ·refine ⟨0, Ev.step (f := fun _ => some 0) (fun k => by simp only [vo.l0]; ((repeat(first|refine Eq.trans (if_pos (by first|assumption|omega|trivial|exact decide_eq_true (by first|assumption|omega)|(simp only[decide_eq_true_eq];first|assumption|omega)|(simp;done)|(simp;omega))) ?_|refine Eq.trans (if_neg (by first|assumption|omega|(intro hh;have:=of_decide_eq_true hh;first|contradiction|omega)|(simp only[decide_eq_true_eq];first|assumption|omega)|(simp;done)|(simp;omega))) ?_));try rfl)) (Ev.now _), .inl ⟨rfl, fun j hj => h3 j (by omega) hj, fun j ha hb => h4 j ha (by omega) hb⟩⟩
theorem sessChk_ev (l : List zo) (hl : l.length ≤ 1000) (hz : ∀ j, j < l.length → (sg l j).f2.f4.size ≤ 1073741824) : ∃ r : Int, Ev (fun k => vo.f k l) r ∧ ((r = 0 ∧ Vn l) ∨ (r = 3 ∧ ¬ Vn l)) :=
 QP l hl hz l.length 0 (by omega) (fun j hj _ => by omega) (fun j _ hj _ => by omega)
theorem Vr (l : List zo) (hl : l.length ≤ 9223372036854775807) : ∀ (m i : Nat), 41 ≤ i + m → (∀ j, j < i → j < l.length → (sg l j).f2.f4.size ≤ 200) →
 ∃ b, Ev (fun k => qE.l0 k l (i : Int)) b ∧ (b = false → l.length ≤ 40 ∧ ∀ j, j < l.length → (sg l j).f2.f4.size ≤ 200)
 | m, i, h2, h3 => by
  by_cases h : i < l.length
  ·by_cases h40 : i < 40
   ·obtain ⟨m, rfl⟩ : ∃ m', m = m' + 1 := ⟨m - 1, by omega⟩
    have e2 := zt i (by omega)
    by_cases hc : ((sg l i).f2.f4.size : Int) > 200
    ·refine ⟨true, Ev.step (f := fun k => qE.j1 k l i (decide ((i : Int) < 40))) (fun k => ?_) (Ev.step (f := fun _ => some true) (fun k => ?_) (Ev.now _)), by simp⟩
     ·simp only [qE.l0]
      ((repeat(first|refine Eq.trans (if_pos (by first|assumption|omega|trivial|exact decide_eq_true (by first|assumption|omega)|(simp only[decide_eq_true_eq];first|assumption|omega)|(simp;done)|(simp;omega))) ?_|refine Eq.trans (if_neg (by first|assumption|omega|(intro hh;have:=of_decide_eq_true hh;first|contradiction|omega)|(simp only[decide_eq_true_eq];first|assumption|omega)|(simp;done)|(simp;omega))) ?_));try rfl)
     ·simp only [qE.j1, rdS]
      ((repeat(first|refine Eq.trans (if_pos (by first|assumption|omega|trivial|exact decide_eq_true (by first|assumption|omega)|(simp only[decide_eq_true_eq];first|assumption|omega)|(simp;done)|(simp;omega))) ?_|refine Eq.trans (if_neg (by first|assumption|omega|(intro hh;have:=of_decide_eq_true hh;first|contradiction|omega)|(simp only[decide_eq_true_eq];first|assumption|omega)|(simp;done)|(simp;omega))) ?_));try rfl)
    ·obtain ⟨b, hb, hs⟩ := Vr l hl m (i + 1) (by omega) (fun j hj hk => by
      by_cases e : j = i
      ·subst e; omega
      ·exact h3 j (by omega) hk)
     refine ⟨b, Ev.step (f := fun k => qE.j1 k l i (decide ((i : Int) < 40))) (fun k => ?_) (Ev.step (fun k => ?_) hb), hs⟩
     ·simp only [qE.l0]
      ((repeat(first|refine Eq.trans (if_pos (by first|assumption|omega|trivial|exact decide_eq_true (by first|assumption|omega)|(simp only[decide_eq_true_eq];first|assumption|omega)|(simp;done)|(simp;omega))) ?_|refine Eq.trans (if_neg (by first|assumption|omega|(intro hh;have:=of_decide_eq_true hh;first|contradiction|omega)|(simp only[decide_eq_true_eq];first|assumption|omega)|(simp;done)|(simp;omega))) ?_));try rfl)
     ·simp only [qE.j1, rdS, e2]
      ((repeat(first|refine Eq.trans (if_pos (by first|assumption|omega|trivial|exact decide_eq_true (by first|assumption|omega)|(simp only[decide_eq_true_eq];first|assumption|omega)|(simp;done)|(simp;omega))) ?_|refine Eq.trans (if_neg (by first|assumption|omega|(intro hh;have:=of_decide_eq_true hh;first|contradiction|omega)|(simp only[decide_eq_true_eq];first|assumption|omega)|(simp;done)|(simp;omega))) ?_));try rfl)
   ·refine ⟨decide ((l.length : Int) > 40), Ev.step (f := fun k => qE.j1 k l i (decide ((i : Int) < 40))) (fun k => ?_) (Ev.step (f := fun _ => some (decide ((l.length : Int) > 40))) (fun k => ?_) (Ev.now _)), fun hb => ⟨by simp at hb; omega, fun j hj => h3 j (by simp at hb; omega) hj⟩⟩
    ·simp only [qE.l0]
     ((repeat(first|refine Eq.trans (if_pos (by first|assumption|omega|trivial|exact decide_eq_true (by first|assumption|omega)|(simp only[decide_eq_true_eq];first|assumption|omega)|(simp;done)|(simp;omega))) ?_|refine Eq.trans (if_neg (by first|assumption|omega|(intro hh;have:=of_decide_eq_true hh;first|contradiction|omega)|(simp only[decide_eq_true_eq];first|assumption|omega)|(simp;done)|(simp;omega))) ?_));try rfl)
    ·simp only [qE.j1]
     ((repeat(first|refine Eq.trans (if_pos (by first|assumption|omega|trivial|exact decide_eq_true (by first|assumption|omega)|(simp only[decide_eq_true_eq];first|assumption|omega)|(simp;done)|(simp;omega))) ?_|refine Eq.trans (if_neg (by first|assumption|omega|(intro hh;have:=of_decide_eq_true hh;first|contradiction|omega)|(simp only[decide_eq_true_eq];first|assumption|omega)|(simp;done)|(simp;omega))) ?_));try rfl)
  ·refine ⟨decide ((l.length : Int) > 40), Ev.step (f := fun k => qE.j1 k l i false) (fun k => ?_) (Ev.step (f := fun _ => some (decide ((l.length : Int) > 40))) (fun k => ?_) (Ev.now _)), fun hb => ⟨by simp at hb; omega, fun j hj => h3 j (by omega) hj⟩⟩
   ·simp only [qE.l0]
    ((repeat(first|refine Eq.trans (if_pos (by first|assumption|omega|trivial|exact decide_eq_true (by first|assumption|omega)|(simp only[decide_eq_true_eq];first|assumption|omega)|(simp;done)|(simp;omega))) ?_|refine Eq.trans (if_neg (by first|assumption|omega|(intro hh;have:=of_decide_eq_true hh;first|contradiction|omega)|(simp only[decide_eq_true_eq];first|assumption|omega)|(simp;done)|(simp;omega))) ?_));try rfl)
   ·simp only [qE.j1]
    ((repeat(first|refine Eq.trans (if_pos (by first|assumption|omega|trivial|exact decide_eq_true (by first|assumption|omega)|(simp only[decide_eq_true_eq];first|assumption|omega)|(simp;done)|(simp;omega))) ?_|refine Eq.trans (if_neg (by first|assumption|omega|(intro hh;have:=of_decide_eq_true hh;first|contradiction|omega)|(simp only[decide_eq_true_eq];first|assumption|omega)|(simp;done)|(simp;omega))) ?_));try rfl)
theorem largeS_ev (l : List zo) (hl : l.length ≤ 9223372036854775807) : ∃ b, Ev (fun k => qE.f k l) b ∧ (b = false → l.length ≤ 40 ∧ ∀ j, j < l.length → (sg l j).f2.f4.size ≤ 200) :=
 Vr l hl 41 0 (by omega) (fun j hj _ => by omega)
end Go.Proofs.YtalpmbeddldfoaaDoor.PA
