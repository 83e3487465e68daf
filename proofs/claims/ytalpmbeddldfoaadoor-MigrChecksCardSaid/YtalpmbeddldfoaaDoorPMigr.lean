/- Which states may be; which two are the same. -/
import Derived.Test.YtalpmbeddldfoaaDoorPSessChk
import Derived.Test.YtalpmbeddldfoaaDoorPKv2
import Derived.Test.YtalpmbeddldfoaaDoorFMigrCheck
import Derived.Test.YtalpmbeddldfoaaDoorFMigrSame
import Derived.Test.YtalpmbeddldfoaaDoorFChangeoverref25Check
import Derived.Test.YtalpmbeddldfoaaDoorFChangeoverref25Same
import Derived.Test.YtalpmbeddldfoaaDoorFChangeoverref23Same
set_option linter.unusedVariables false
set_option linter.unusedSimpArgs false
namespace Go.Proofs.YtalpmbeddldfoaaDoor.PA
open Go.RowKit Go.IntWalk Go.Proofs.YtalpmbeddldfoaaDoorW.PrintWords Go.Proofs.YtalpmbeddldfoaaDoor.Hand
def SmallM (l1 : List vP) (l2 : List zo) : Prop := (l1.length ≤ 80 ∧ ∀ j, j < l1.length → (pg l1 j).f0.size ≤ 200 ∧ (pg l1 j).f1.size ≤ 200) ∧ l2.length ≤ 40 ∧ ∀ j, j < l2.length → (sg l2 j).f2.f4.size ≤ 200
theorem ZA (a : Int) (l1 : List vP) (l2 : List zo) (h1 : l1.length ≤ 9223372036854775807) (h2 : l2.length ≤ 9223372036854775807) :
 ∃ b, Ev (fun k => vr.f k a l1 l2) b ∧ (b = false → SmallM l1 l2) := by
 obtain ⟨b, hb, hb'⟩ := largeS_ev l2 h2
 obtain ⟨c, hc, hc'⟩ := largeP_ev l1 h1
 cases b
 ·refine ⟨c, ?_, fun e => ⟨hc' e, hb' rfl⟩⟩
  unfold vr.f
  exact hb.bind (qW (by simp) (hc.bind (Ev.now _)))
 ·refine ⟨true, ?_, fun e => by simp at e⟩
  unfold vr.f
  exact hb.bind (vm rfl (Ev.now _))
def NoRev (l : List zo) : Prop := ∀ j, j < l.length → (sg l j).f2.f5 = 0
def OkM (a : Int) (l1 : List vP) (l2 : List zo) : Prop := (a = 1 ∧ Ok1 l1 ∧ Vn l2 ∧ NoRev l2) ∨ (a = 2 ∧ Ok2 l1 ∧ Vn l2)
theorem Zb (l1 : List vP) (l2 : List zo) (hl : l2.length ≤ 1000) : ∀ (m i : Nat), l2.length ≤ i + m → (∀ j, j < i → j < l2.length → (sg l2 j).f2.f5 = 0) →
 ∃ b, Ev (fun k => qx.l0 k (i : Int) 1 l1 l2) b ∧ (b = true ↔ NoRev l2)
 | m, i, hm, hg => by
  by_cases h : i < l2.length
  ·obtain ⟨m, rfl⟩ : ∃ m', m = m' + 1 := ⟨m - 1, by omega⟩
   have e2 := zt i (by omega)
   by_cases hc : (sg l2 i).f2.f5 = 0
   ·obtain ⟨b, hb, hs⟩ := Zb l1 l2 hl m (i + 1) (by omega) (fun j ha hd => by
     by_cases e : j = i
     ·subst e; exact hc
     ·exact hg j (by omega) hd)
    refine ⟨b, Ev.step (fun k => ?_) hb, hs⟩
    simp only [qx.l0, e2, rdS]
    ((repeat(first|refine Eq.trans (if_pos (by first|assumption|omega|trivial|exact decide_eq_true (by first|assumption|omega)|(simp only[decide_eq_true_eq];first|assumption|omega)|(simp;done)|(simp;omega))) ?_|refine Eq.trans (if_neg (by first|assumption|omega|(intro hh;have:=of_decide_eq_true hh;first|contradiction|omega)|(simp only[decide_eq_true_eq];first|assumption|omega)|(simp;done)|(simp;omega))) ?_));try rfl)
   ·refine ⟨false, Ev.step (f := fun _ => some false) (fun k => ?_) (Ev.now _), by simp; exact fun hu => hc (hu i h)⟩
    simp only [qx.l0, e2, rdS]
    ((repeat(first|refine Eq.trans (if_pos (by first|assumption|omega|trivial|exact decide_eq_true (by first|assumption|omega)|(simp only[decide_eq_true_eq];first|assumption|omega)|(simp;done)|(simp;omega))) ?_|refine Eq.trans (if_neg (by first|assumption|omega|(intro hh;have:=of_decide_eq_true hh;first|contradiction|omega)|(simp only[decide_eq_true_eq];first|assumption|omega)|(simp;done)|(simp;omega))) ?_));try rfl)
  ·refine ⟨true, Ev.step (f := fun _ => some true) (fun k => ?_) (Ev.now _), by simp; exact fun j hj => hg j (by omega) hj⟩
   simp only [qx.l0]
   ((repeat(first|refine Eq.trans (if_pos (by first|assumption|omega|trivial|exact decide_eq_true (by first|assumption|omega)|(simp only[decide_eq_true_eq];first|assumption|omega)|(simp;done)|(simp;omega))) ?_|refine Eq.trans (if_neg (by first|assumption|omega|(intro hh;have:=of_decide_eq_true hh;first|contradiction|omega)|(simp only[decide_eq_true_eq];first|assumption|omega)|(simp;done)|(simp;omega))) ?_));try rfl)
theorem VR (l1 : List vP) (l2 : List zo) (hl : l2.length ≤ 1000) : ∀ (m i : Nat), l2.length ≤ i + m → Ev (fun k => qx.l0 k (i : Int) 2 l1 l2) true
 | m, i, hm => by
  by_cases h : i < l2.length
  ·obtain ⟨m, rfl⟩ : ∃ m', m = m' + 1 := ⟨m - 1, by omega⟩
   have e2 := zt i (by omega)
   refine Ev.step (fun k => ?_) (VR l1 l2 hl m (i + 1) (by omega))
   simp only [qx.l0, e2, rdS]
   ((repeat(first|refine Eq.trans (if_pos (by first|assumption|omega|trivial|exact decide_eq_true (by first|assumption|omega)|(simp only[decide_eq_true_eq];first|assumption|omega)|(simp;done)|(simp;omega))) ?_|refine Eq.trans (if_neg (by first|assumption|omega|(intro hh;have:=of_decide_eq_true hh;first|contradiction|omega)|(simp only[decide_eq_true_eq];first|assumption|omega)|(simp;done)|(simp;omega))) ?_));try rfl)
  ·exact Ev.step (f := fun _ => some true) (fun k => by simp only [qx.l0]; ((repeat(first|refine Eq.trans (if_pos (by first|assumption|omega|trivial|exact decide_eq_true (by first|assumption|omega)|(simp only[decide_eq_true_eq];first|assumption|omega)|(simp;done)|(simp;omega))) ?_|refine Eq.trans (if_neg (by first|assumption|omega|(intro hh;have:=of_decide_eq_true hh;first|contradiction|omega)|(simp only[decide_eq_true_eq];first|assumption|omega)|(simp;done)|(simp;omega))) ?_));try rfl)) (Ev.now _)
theorem jN (a : Int) (l1 : List vP) (l2 : List zo) : Ev (fun k => qx.j0 k true a l1 l2) false := Ev.step (f := fun _ => some false) (fun k => by simp only [qx.j0]; ((repeat(first|refine Eq.trans (if_pos (by first|assumption|omega|trivial|exact decide_eq_true (by first|assumption|omega)|(simp only[decide_eq_true_eq];first|assumption|omega)|(simp;done)|(simp;omega))) ?_|refine Eq.trans (if_neg (by first|assumption|omega|(intro hh;have:=of_decide_eq_true hh;first|contradiction|omega)|(simp only[decide_eq_true_eq];first|assumption|omega)|(simp;done)|(simp;omega))) ?_));try rfl)) (Ev.now _)
theorem refM_ev (a : Int) (l1 : List vP) (l2 : List zo) (hs : SmallM l1 l2) : ∃ b, Ev (fun k => qx.f k a l1 l2) b ∧ (b = true ↔ OkM a l1 l2) := by
 obtain ⟨⟨h80, hz⟩, h40, hy⟩ := hs
 have hy' : ∀ j, j < l2.length → (sg l2 j).f2.f4.size ≤ 1073741824 := fun j hj => Nat.le_trans (hy j hj) (by omega)
 obtain ⟨c, hc, hc'⟩ := ref22_ev l2 (by omega) hy'
 unfold qx.f
 by_cases c1 : a < 1
 ·exact ⟨false, vm c1 (jN _ _ _), by simp [OkM]; omega⟩
 by_cases c2 : a > 2
 ·exact ⟨false, qW c1 (vm c2 (jN _ _ _)), by simp [OkM]; omega⟩
 rcases (show a = 1 ∨ a = 2 by omega) with rfl | rfl
 ·obtain ⟨d, hd, hd'⟩ := refChk1_ev l1 (by omega) hz
  cases d
  ·exact ⟨false, qW c1 (qW c2 (hd.bind (qW (by simp) (jN _ _ _)))), by simp [OkM]; intro h; exact absurd (hd'.mpr h) (by simp)⟩
  ·cases c
   ·exact ⟨false, qW c1 (qW c2 (hd.bind (vm rfl (hc.bind (jN _ _ _))))), by simp [OkM]; intro _ h; exact absurd (hc'.mpr h) (by simp)⟩
   ·obtain ⟨e, he, he'⟩ := Zb l1 l2 (by omega) l2.length 0 (by omega) (fun j hj => by omega)
    refine ⟨e, qW c1 (qW c2 (hd.bind (vm rfl (hc.bind (Ev.step (fun k => by simp only [qx.j0]; ((repeat(first|refine Eq.trans (if_pos (by first|assumption|omega|trivial|exact decide_eq_true (by first|assumption|omega)|(simp only[decide_eq_true_eq];first|assumption|omega)|(simp;done)|(simp;omega))) ?_|refine Eq.trans (if_neg (by first|assumption|omega|(intro hh;have:=of_decide_eq_true hh;first|contradiction|omega)|(simp only[decide_eq_true_eq];first|assumption|omega)|(simp;done)|(simp;omega))) ?_));try rfl)) he))))), ?_⟩
    rw [he']
    exact ⟨fun h => .inl ⟨rfl, hd'.mp rfl, hc'.mp rfl, h⟩, fun h => by
     rcases h with ⟨_, _, _, h⟩ | ⟨h, _⟩
     ·exact h
     ·omega⟩
 ·obtain ⟨d, hd, hd'⟩ := refChk2_ev l1 (by omega) hz
  cases d
  ·exact ⟨false, qW c1 (qW c2 (hd.bind (qW (by simp) (jN _ _ _)))), by simp [OkM]; intro h; exact absurd (hd'.mpr h) (by simp)⟩
  ·cases c
   ·exact ⟨false, qW c1 (qW c2 (hd.bind (vm rfl (hc.bind (jN _ _ _))))), by simp [OkM]; intro _ h; exact absurd (hc'.mpr h) (by simp)⟩
   ·refine ⟨true, qW c1 (qW c2 (hd.bind (vm rfl (hc.bind (Ev.step (fun k => by simp only [qx.j0]; ((repeat(first|refine Eq.trans (if_pos (by first|assumption|omega|trivial|exact decide_eq_true (by first|assumption|omega)|(simp only[decide_eq_true_eq];first|assumption|omega)|(simp;done)|(simp;omega))) ?_|refine Eq.trans (if_neg (by first|assumption|omega|(intro hh;have:=of_decide_eq_true hh;first|contradiction|omega)|(simp only[decide_eq_true_eq];first|assumption|omega)|(simp;done)|(simp;omega))) ?_));try rfl)) (VR l1 l2 (by omega) l2.length 0 (by omega))))))), ?_⟩
    simp only [true_iff]
    exact .inr ⟨rfl, hd'.mp rfl, hc'.mp rfl⟩
theorem ZL (a : Int) (l1 : List vP) (l2 : List zo) (hl : l2.length ≤ 1000) (r : Int) (hr : Ev (fun k => qM.f k l1) r) : ∀ (m i : Nat), l2.length ≤ i + m → (∀ j, j < i → j < l2.length → (sg l2 j).f2.f5 = 0) →
 ∃ e : Int, Ev (fun k => vz.l0 k l2 (l2.length : Int) (i : Int) a l1 l2) e ∧ ((e = r ∧ NoRev l2) ∨ (e = 3 ∧ ¬ NoRev l2))
 | m, i, hm, hg => by
  by_cases h : i < l2.length
  ·obtain ⟨m, rfl⟩ : ∃ m', m = m' + 1 := ⟨m - 1, by omega⟩
   have e2 := zt i (by omega)
   by_cases hc : (sg l2 i).f2.f5 = 0
   ·obtain ⟨b, hb, hs⟩ := ZL a l1 l2 hl r hr m (i + 1) (by omega) (fun j ha hd => by
     by_cases e : j = i
     ·subst e; exact hc
     ·exact hg j (by omega) hd)
    refine ⟨b, Ev.step (fun k => ?_) hb, hs⟩
    simp only [vz.l0, e2, rdS]
    ((repeat(first|refine Eq.trans (if_pos (by first|assumption|omega|trivial|exact decide_eq_true (by first|assumption|omega)|(simp only[decide_eq_true_eq];first|assumption|omega)|(simp;done)|(simp;omega))) ?_|refine Eq.trans (if_neg (by first|assumption|omega|(intro hh;have:=of_decide_eq_true hh;first|contradiction|omega)|(simp only[decide_eq_true_eq];first|assumption|omega)|(simp;done)|(simp;omega))) ?_));try rfl)
   ·refine ⟨3, Ev.step (f := fun _ => some 3) (fun k => ?_) (Ev.now _), .inr ⟨rfl, fun hu => hc (hu i h)⟩⟩
    simp only [vz.l0, e2, rdS]
    ((repeat(first|refine Eq.trans (if_pos (by first|assumption|omega|trivial|exact decide_eq_true (by first|assumption|omega)|(simp only[decide_eq_true_eq];first|assumption|omega)|(simp;done)|(simp;omega))) ?_|refine Eq.trans (if_neg (by first|assumption|omega|(intro hh;have:=of_decide_eq_true hh;first|contradiction|omega)|(simp only[decide_eq_true_eq];first|assumption|omega)|(simp;done)|(simp;omega))) ?_));try rfl)
  ·refine ⟨r, Ev.step (fun k => ?_) (hr.bind (Ev.now _)), .inl ⟨rfl, fun j hj => hg j (by omega) hj⟩⟩
   simp only [vz.l0]
   ((repeat(first|refine Eq.trans (if_pos (by first|assumption|omega|trivial|exact decide_eq_true (by first|assumption|omega)|(simp only[decide_eq_true_eq];first|assumption|omega)|(simp;done)|(simp;omega))) ?_|refine Eq.trans (if_neg (by first|assumption|omega|(intro hh;have:=of_decide_eq_true hh;first|contradiction|omega)|(simp only[decide_eq_true_eq];first|assumption|omega)|(simp;done)|(simp;omega))) ?_));try rfl)
theorem migM_ev (a : Int) (l1 : List vP) (l2 : List zo) (hs : SmallM l1 l2) : ∃ r : Int, Ev (fun k => vz.f k a l1 l2) r ∧ ((r = 0 ∧ OkM a l1 l2) ∨ (r = 3 ∧ ¬ OkM a l1 l2)) := by
 obtain ⟨⟨h80, hz⟩, h40, hy⟩ := hs
 have hy' : ∀ j, j < l2.length → (sg l2 j).f2.f4.size ≤ 1073741824 := fun j hj => Nat.le_trans (hy j hj) (by omega)
 obtain ⟨c, hc, hc'⟩ := sessChk_ev l2 (by omega) hy'
 unfold vz.f
 rcases hc' with ⟨rfl, hg⟩ | ⟨rfl, hg⟩
 ·by_cases c1 : a = 1
  ·subst c1
   obtain ⟨r, hr, hr'⟩ := kvChk_ev l1 (by omega) hz
   obtain ⟨e, he, he'⟩ := ZL 1 l1 l2 (by omega) r hr l2.length 0 (by omega) (fun j hj => by omega)
   refine ⟨e, hc.bind (vm rfl (vm rfl he)), ?_⟩
   rcases he' with ⟨rfl, hn⟩ | ⟨rfl, hn⟩
   ·rcases hr' with ⟨h, ho⟩ | ⟨h, ho⟩
    ·exact .inl ⟨h, .inl ⟨rfl, ho, hg, hn⟩⟩
    ·refine .inr ⟨h, fun hk => ?_⟩
     rcases hk with ⟨_, h1, _⟩ | ⟨h1, _⟩
     ·exact ho h1
     ·omega
   ·refine .inr ⟨rfl, fun hk => ?_⟩
    rcases hk with ⟨_, _, _, h1⟩ | ⟨h1, _⟩
    ·exact hn h1
    ·omega
  ·by_cases c2 : a = 2
   ·subst c2
    obtain ⟨r, hr, hr'⟩ := kv2Chk_ev l1 (by omega) hz
    refine ⟨r, hc.bind (vm rfl (qW c1 (vm rfl (hr.bind (Ev.now _))))), ?_⟩
    rcases hr' with ⟨h, ho⟩ | ⟨h, ho⟩
    ·exact .inl ⟨h, .inr ⟨rfl, ho, hg⟩⟩
    ·refine .inr ⟨h, fun hk => ?_⟩
     rcases hk with ⟨h1, _⟩ | ⟨_, h1, _⟩
     ·omega
     ·exact ho h1
   ·refine ⟨3, hc.bind (vm rfl (qW c1 (qW c2 (Ev.now _)))), .inr ⟨rfl, fun hk => ?_⟩⟩
    rcases hk with ⟨h1, _⟩ | ⟨h1, _⟩
    ·exact c1 h1
    ·exact c2 h1
 ·refine ⟨3, hc.bind (qW (by omega) (Ev.now _)), .inr ⟨rfl, fun hk => ?_⟩⟩
  rcases hk with ⟨_, _, h1, _⟩ | ⟨_, _, h1⟩
  ·exact hg h1
  ·exact hg h1
theorem ZD (a b : List vP) (hl : a.length ≤ 1000) (hb : a.length = b.length) : ∀ (m i : Nat), a.length ≤ i + m →
 ∃ r : Bool, Ev (fun k => vL.l0 k a b (a.length : Int) (i : Int)) r ∧ Ev (fun k => qQ.l0 k a b (i : Int)) r ∧ (a = b → r = true)
 | m, i, hm => by
  by_cases h : i < a.length
  ·obtain ⟨m, rfl⟩ : ∃ m', m = m' + 1 := ⟨m - 1, by omega⟩
   have e2 := zt i (by omega)
   have hib : i < b.length := by omega
   by_cases hs : (!(((pg a i).f0.toList) == ((pg b i).f0.toList)) || (!(((pg a i).f1.toList) == ((pg b i).f1.toList)) || (!((pg a i).f2 == (pg b i).f2)))) = true
   ·refine ⟨false, Ev.step (f := fun _ => some false) (fun k => ?_) (Ev.now _), Ev.step (f := fun _ => some false) (fun k => ?_) (Ev.now _), fun e => ?_⟩
    ·simp only [vL.l0, Qe, e2]
     ((repeat(first|refine Eq.trans (if_pos (by first|assumption|omega|trivial|exact decide_eq_true (by first|assumption|omega)|(simp only[decide_eq_true_eq];first|assumption|omega)|(simp;done)|(simp;omega))) ?_|refine Eq.trans (if_neg (by first|assumption|omega|(intro hh;have:=of_decide_eq_true hh;first|contradiction|omega)|(simp only[decide_eq_true_eq];first|assumption|omega)|(simp;done)|(simp;omega))) ?_));try rfl)
    ·simp only [qQ.l0, Qe, e2]
     ((repeat(first|refine Eq.trans (if_pos (by first|assumption|omega|trivial|exact decide_eq_true (by first|assumption|omega)|(simp only[decide_eq_true_eq];first|assumption|omega)|(simp;done)|(simp;omega))) ?_|refine Eq.trans (if_neg (by first|assumption|omega|(intro hh;have:=of_decide_eq_true hh;first|contradiction|omega)|(simp only[decide_eq_true_eq];first|assumption|omega)|(simp;done)|(simp;omega))) ?_));try rfl)
    ·exfalso
     subst e
     revert hs
     simp
   ·obtain ⟨r, h1, h2, h3⟩ := ZD a b hl hb m (i + 1) (by omega)
    refine ⟨r, Ev.step (fun k => ?_) h1, Ev.step (fun k => ?_) h2, h3⟩
    ·simp only [vL.l0, Qe, e2]
     ((repeat(first|refine Eq.trans (if_pos (by first|assumption|omega|trivial|exact decide_eq_true (by first|assumption|omega)|(simp only[decide_eq_true_eq];first|assumption|omega)|(simp;done)|(simp;omega))) ?_|refine Eq.trans (if_neg (by first|assumption|omega|(intro hh;have:=of_decide_eq_true hh;first|contradiction|omega)|(simp only[decide_eq_true_eq];first|assumption|omega)|(simp;done)|(simp;omega))) ?_));try rfl)
    ·simp only [qQ.l0, Qe, e2]
     ((repeat(first|refine Eq.trans (if_pos (by first|assumption|omega|trivial|exact decide_eq_true (by first|assumption|omega)|(simp only[decide_eq_true_eq];first|assumption|omega)|(simp;done)|(simp;omega))) ?_|refine Eq.trans (if_neg (by first|assumption|omega|(intro hh;have:=of_decide_eq_true hh;first|contradiction|omega)|(simp only[decide_eq_true_eq];first|assumption|omega)|(simp;done)|(simp;omega))) ?_));try rfl)
  ·exact ⟨true, Ev.step (f := fun _ => some true) (fun k => by simp only [vL.l0]; ((repeat(first|refine Eq.trans (if_pos (by first|assumption|omega|trivial|exact decide_eq_true (by first|assumption|omega)|(simp only[decide_eq_true_eq];first|assumption|omega)|(simp;done)|(simp;omega))) ?_|refine Eq.trans (if_neg (by first|assumption|omega|(intro hh;have:=of_decide_eq_true hh;first|contradiction|omega)|(simp only[decide_eq_true_eq];first|assumption|omega)|(simp;done)|(simp;omega))) ?_));try rfl)) (Ev.now _), Ev.step (f := fun _ => some true) (fun k => by simp only [qQ.l0]; ((repeat(first|refine Eq.trans (if_pos (by first|assumption|omega|trivial|exact decide_eq_true (by first|assumption|omega)|(simp only[decide_eq_true_eq];first|assumption|omega)|(simp;done)|(simp;omega))) ?_|refine Eq.trans (if_neg (by first|assumption|omega|(intro hh;have:=of_decide_eq_true hh;first|contradiction|omega)|(simp only[decide_eq_true_eq];first|assumption|omega)|(simp;done)|(simp;omega))) ?_));try rfl)) (Ev.now _), fun _ => rfl⟩
theorem eqP2_ev (a b : List vP) (hl : a.length ≤ 1000) : ∃ r : Bool, Ev (fun k => vL.f k a b) r ∧ Ev (fun k => qQ.f k a b) r ∧ (a = b → r = true) := by
 unfold vL.f qQ.f
 by_cases h : (a.length : Int) = (b.length : Int)
 ·obtain ⟨r, h1, h2, h3⟩ := ZD a b hl (by omega) a.length 0 (by omega)
  exact ⟨r, vm h h1, vm h h2, h3⟩
 ·exact ⟨false, qW h (Ev.now _), qW h (Ev.now _), fun e => by subst e; exact absurd rfl h⟩
theorem ZG (a b : List zo) (hl : a.length ≤ 1000) (hb : a.length = b.length) : ∀ (m i : Nat), a.length ≤ i + m →
 ∃ r : Bool, Ev (fun k => vw.l0 k a b (a.length : Int) (i : Int)) r ∧ Ev (fun k => qT.l0 k a b (i : Int)) r ∧ (a = b → r = true)
 | m, i, hm => by
  by_cases h : i < a.length
  ·obtain ⟨m, rfl⟩ : ∃ m', m = m' + 1 := ⟨m - 1, by omega⟩
   have e2 := zt i (by omega)
   have hib : i < b.length := by omega
   by_cases hs : ((!(((sg a i).f0) == ((sg b i).f0))) || ((!(((sg a i).f1) == ((sg b i).f1))) || ((!(((sg a i).f2.f0) == ((sg b i).f2.f0))) || ((!(((sg a i).f2.f1) == ((sg b i).f2.f1))) || ((!(((sg a i).f2.f2) == ((sg b i).f2.f2))) || ((!(((sg a i).f2.f3) == ((sg b i).f2.f3))) || ((!(((sg a i).f2.f4.toList) == ((sg b i).f2.f4.toList))) || (!(((sg a i).f2.f5) == ((sg b i).f2.f5)))))))))) = true
   ·refine ⟨false, Ev.step (f := fun _ => some false) (fun k => ?_) (Ev.now _), Ev.step (f := fun _ => some false) (fun k => ?_) (Ev.now _), fun e => ?_⟩
    ·simp only [vw.l0, rdS, e2]
     ((repeat(first|refine Eq.trans (if_pos (by first|assumption|omega|trivial|exact decide_eq_true (by first|assumption|omega)|(simp only[decide_eq_true_eq];first|assumption|omega)|(simp;done)|(simp;omega))) ?_|refine Eq.trans (if_neg (by first|assumption|omega|(intro hh;have:=of_decide_eq_true hh;first|contradiction|omega)|(simp only[decide_eq_true_eq];first|assumption|omega)|(simp;done)|(simp;omega))) ?_));try rfl)
    ·simp only [qT.l0, rdS, e2]
     ((repeat(first|refine Eq.trans (if_pos (by first|assumption|omega|trivial|exact decide_eq_true (by first|assumption|omega)|(simp only[decide_eq_true_eq];first|assumption|omega)|(simp;done)|(simp;omega))) ?_|refine Eq.trans (if_neg (by first|assumption|omega|(intro hh;have:=of_decide_eq_true hh;first|contradiction|omega)|(simp only[decide_eq_true_eq];first|assumption|omega)|(simp;done)|(simp;omega))) ?_));try rfl)
    ·exfalso
     subst e
     revert hs
     simp
   ·obtain ⟨r, h1, h2, h3⟩ := ZG a b hl hb m (i + 1) (by omega)
    refine ⟨r, Ev.step (fun k => ?_) h1, Ev.step (fun k => ?_) h2, h3⟩
    ·simp only [vw.l0, rdS, e2]
     ((repeat(first|refine Eq.trans (if_pos (by first|assumption|omega|trivial|exact decide_eq_true (by first|assumption|omega)|(simp only[decide_eq_true_eq];first|assumption|omega)|(simp;done)|(simp;omega))) ?_|refine Eq.trans (if_neg (by first|assumption|omega|(intro hh;have:=of_decide_eq_true hh;first|contradiction|omega)|(simp only[decide_eq_true_eq];first|assumption|omega)|(simp;done)|(simp;omega))) ?_));try rfl)
    ·simp only [qT.l0, rdS, e2]
     ((repeat(first|refine Eq.trans (if_pos (by first|assumption|omega|trivial|exact decide_eq_true (by first|assumption|omega)|(simp only[decide_eq_true_eq];first|assumption|omega)|(simp;done)|(simp;omega))) ?_|refine Eq.trans (if_neg (by first|assumption|omega|(intro hh;have:=of_decide_eq_true hh;first|contradiction|omega)|(simp only[decide_eq_true_eq];first|assumption|omega)|(simp;done)|(simp;omega))) ?_));try rfl)
  ·exact ⟨true, Ev.step (f := fun _ => some true) (fun k => by simp only [vw.l0]; ((repeat(first|refine Eq.trans (if_pos (by first|assumption|omega|trivial|exact decide_eq_true (by first|assumption|omega)|(simp only[decide_eq_true_eq];first|assumption|omega)|(simp;done)|(simp;omega))) ?_|refine Eq.trans (if_neg (by first|assumption|omega|(intro hh;have:=of_decide_eq_true hh;first|contradiction|omega)|(simp only[decide_eq_true_eq];first|assumption|omega)|(simp;done)|(simp;omega))) ?_));try rfl)) (Ev.now _), Ev.step (f := fun _ => some true) (fun k => by simp only [qT.l0]; ((repeat(first|refine Eq.trans (if_pos (by first|assumption|omega|trivial|exact decide_eq_true (by first|assumption|omega)|(simp only[decide_eq_true_eq];first|assumption|omega)|(simp;done)|(simp;omega))) ?_|refine Eq.trans (if_neg (by first|assumption|omega|(intro hh;have:=of_decide_eq_true hh;first|contradiction|omega)|(simp only[decide_eq_true_eq];first|assumption|omega)|(simp;done)|(simp;omega))) ?_));try rfl)) (Ev.now _), fun _ => rfl⟩
theorem eqS2_ev (a b : List zo) (hl : a.length ≤ 1000) : ∃ r : Bool, Ev (fun k => vw.f k a b) r ∧ Ev (fun k => qT.f k a b) r ∧ (a = b → r = true) := by
 unfold vw.f qT.f
 by_cases h : (a.length : Int) = (b.length : Int)
 ·obtain ⟨r, h1, h2, h3⟩ := ZG a b hl (by omega) a.length 0 (by omega)
  exact ⟨r, vm h h1, vm h h2, h3⟩
 ·exact ⟨false, qW h (Ev.now _), qW h (Ev.now _), fun e => by subst e; exact absurd rfl h⟩
theorem sameM_ev (a b : Int) (l1 m1 : List vP) (l2 m2 : List zo) (h1 : l1.length ≤ 1000) (h2 : l2.length ≤ 1000) :
 ∃ r : Bool, Ev (fun k => zg.f k a l1 l2 b m1 m2) r ∧ Ev (fun k => qX.f k a l1 l2 b m1 m2) r ∧ (a = b → l1 = m1 → l2 = m2 → r = true) := by
 unfold zg.f qX.f
 by_cases h : a = b
 ·obtain ⟨r, p1, p2, p3⟩ := eqP2_ev l1 m1 h1
  obtain ⟨s, s1, s2, s3⟩ := eqS2_ev l2 m2 h2
  cases r
  ·exact ⟨false, vm h (p1.bind (qW (by simp) (Ev.now _))), vm h (p2.bind (qW (by simp) (Ev.now _))), fun _ e _ => p3 e⟩
  ·exact ⟨s, vm h (p1.bind (vm rfl (s1.bind (Ev.now _)))), vm h (p2.bind (vm rfl (s2.bind (Ev.now _)))), fun _ _ e => s3 e⟩
 ·exact ⟨false, qW h (Ev.now _), qW h (Ev.now _), fun e => absurd e h⟩
end Go.Proofs.YtalpmbeddldfoaaDoor.PA
