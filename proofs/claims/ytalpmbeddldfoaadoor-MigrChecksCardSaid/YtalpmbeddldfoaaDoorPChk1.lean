import Derived.Test.YtalpmbeddldfoaaDoorF0
import Derived.Test.YtalpmbeddldfoaaDoorFChangeoverref05Key
import Derived.Test.YtalpmbeddldfoaaDoorPKeyVal
import Derived.Test.YtalpmbeddldfoaaDoorHandD
import Derived.Test.YtalpmbeddldfoaaDoorPPair
import Derived.Test.YtalpmbeddldfoaaDoorFKvtwoPlain
import Derived.Test.YtalpmbeddldfoaaDoorHandAnswer
import Derived.Test.YtalpmbeddldfoaaDoorFApiPair87
import Derived.Test.YtalpmbeddldfoaaDoorFChangeoverref09Check
import Derived.Test.YtalpmbeddldfoaaDoorPCheck
section
section
section
namespace Go.Proofs.YtalpmbeddldfoaaDoor.PA
open Go.RowKit Go.Proofs.YtalpmbeddldfoaaDoor.Hand Go.Proofs.YtalpmbeddldfoaaDoorW.PrintWords Go.Proofs.YtalpmbeddldfoaaDoorW.PrintLast Go.Proofs.YtalpmbeddldfoaaDoorW.PrintMore
attribute [local go_sem] vW vV zc zb vG vF vU vT
attribute [local go_sem high] za zd ze
set_option linter.unusedVariables false
set_option linter.unusedSimpArgs false
def zi.f(k : Nat)(a0 : ByteArray) : Option (Bool):=if(a0.size : Int) > 1073741824 then(if 0≤(a0.size : Int) then(if(a0.size : Int)<(a0.size : Int) then(some ((bt a0 (a0.size : Int)) == 0)) else(none)) else(none)) else((qy.f k a0).bind fun t109=>(some t109))
theorem zi.mono : ∀ a0 k,qR (zi.f k a0) (zi.f (k + 1) a0):=by
 intro a0 k;unfold zi.f
 repeat' first
  | (with_reducible exact qy.mono _ _)
  | (with_reducible exact qR.refl _)
  | (with_reducible exact qR.none _)
  | (with_reducible refine qR.ite ?_ ?_)
  | (with_reducible refine qR.bind ?_ (fun _=>?_))
  | exact qy.mono _ _
  | exact qR.none _
  | refine qR.ite ?_ ?_
  | refine qR.bind ?_ (fun _=>?_)
set_option maxHeartbeats 8000000 in
set_option maxRecDepth 100000 in
theorem zi.calls(k : Nat)(a0 : ByteArray)(r : Bool)(w : World)(h : zi.f k a0=some r)(hT : Qp w) :
 Calls Tryd.prog 21 #[.string a0] w fun e w'=>e = .returned (.bool r)∧Below w.heap.size w w':=by
 unfold zi.f at h;by_cases hs : (a0.size : Int) > 1073741824
 ·rw [if_pos hs,if_pos (by omega),if_neg (by omega)] at h
  cases h
 ·rw [if_neg hs] at h
  obtain⟨t,ht,hr⟩:=Option.bind_eq_some_iff.mp h;obtain rfl:=Option.some.inj hr;obtain rfl:=jV (Ev.of (fun k=>qy.mono a0 k) ht) (jT a0 (by omega));exact key_walk a0 (by omega) w hT
end Go.Proofs.YtalpmbeddldfoaaDoor.PA
end
section
/- Pairs without their revisions. -/
set_option linter.unusedVariables false
set_option linter.unusedSimpArgs false
namespace Go.Proofs.YtalpmbeddldfoaaDoor.PA
open Go.RowKit Go.IntWalk Go.Proofs.YtalpmbeddldfoaaDoorW.PrintWords Go.Proofs.YtalpmbeddldfoaaDoor.Hand
theorem VQ (l : List vP) (hl : l.length ≤ 1000) : ∀ (m i : Nat), l.length ≤ i + m → i ≤ l.length → Ev (fun k => vH.l0 k ((l.map un).take i ++ l.drop i) (l.length : Int) (i : Int)) (l.map un)
 | m, i, hm, hi => by
  by_cases h : i < l.length
  ·obtain ⟨m, rfl⟩ : ∃ m', m = m' + 1 := ⟨m - 1, by omega⟩
   have e2 := zt i (by omega)
   have hlen : ((l.map un).take i ++ l.drop i).length = l.length := by simp; omega
   refine Ev.step (fun k => ?_) (VQ l hl m (i + 1) (by omega) (by omega))
   simp only [vH.l0, e2]
   refine Eq.trans (if_pos (by omega)) (Eq.trans (if_pos (by omega)) (Eq.trans (if_pos (by omega)) ?_))
   congr 1
   have hg : pg ((l.map un).take i ++ l.drop i) i = pg l i := by
    unfold pg
    rw [List.getD_eq_getElem?_getD, List.getD_eq_getElem?_getD, List.getElem?_append_right (by simp; omega)]
    simp [Nat.min_eq_left hi]
   rw [Qe, hg, Int.toNat_natCast, List.set_append_right _ _ (by simp; omega)]
   have e3 : i - ((l.map un).take i).length = 0 := by simp; omega
   have hd : l.drop i = l[i] :: l.drop (i + 1) := List.drop_eq_getElem_cons h
   have hp : pg l i = l[i] := by unfold pg; rw [List.getD_eq_getElem?_getD, List.getElem?_eq_getElem h]; rfl
   rw [e3, hd, hp, List.set_cons_zero, List.take_succ_eq_append_getElem (by simpa using h), List.append_assoc]
   simp [un]
  ·have e : i = l.length := by omega
   subst e
   refine Ev.step (f := fun _ => some (l.map un)) (fun k => ?_) (Ev.now _)
   simp only [vH.l0]
   refine Eq.trans (if_neg (by omega)) ?_
   rw [List.take_of_length_le (by simp), List.drop_length, List.append_nil]
theorem plainUn_is (l : List vP) (hl : l.length ≤ 1000) : Ev (fun k => vH.f k l) (l.map un) := by
 unfold vH.f
 refine QQ (cloneP l hl) ?_
 have := VQ l hl l.length 0 (by omega) (by omega)
 exact this
end Go.Proofs.YtalpmbeddldfoaaDoor.PA
end
end
section
/- What the checks of an answer, and of sessions, say. -/
set_option linter.unusedVariables false
set_option linter.unusedSimpArgs false
namespace Go.Proofs.YtalpmbeddldfoaaDoor.PA
open Go.RowKit Go.IntWalk Go.Proofs.YtalpmbeddldfoaaDoorW.PrintWords Go.Proofs.YtalpmbeddldfoaaDoor.Hand
theorem refAns_ev (a b c : Int) (d : Bool) (e : ByteArray) (f : Int) (hs : e.size ≤ 1073741824) : Ev (fun k => qF.f k a b c d e f) (jR a b c e f) := by
 have jt : Ev (fun k => qF.j0 k true a b c d e f) 6 := Ev.step (f := fun _ => some 6) (fun k => by simp only [qF.j0]; ((repeat(first|refine Eq.trans (if_pos (by first|assumption|omega|trivial|exact decide_eq_true (by first|assumption|omega)|(simp only[decide_eq_true_eq];first|assumption|omega)|(simp;done)|(simp;omega))) ?_|refine Eq.trans (if_neg (by first|assumption|omega|(intro hh;have:=of_decide_eq_true hh;first|contradiction|omega)|(simp only[decide_eq_true_eq];first|assumption|omega)|(simp;done)|(simp;omega))) ?_));try rfl)) (Ev.now _)
 by_cases hn : numB a b c f = true
 ·have hn' := of_decide_eq_true hn
  unfold qF.f jR
  rw [if_pos hn]
  refine qW (by omega) (qW (by omega) (qW (by omega) (qW (by omega) (qW (by omega) (qW (by omega) (qW (by omega) ?_))))))
  rw [decide_eq_false (by omega)]
  refine Ev.step (fun k => by simp only [qF.j0]; ((repeat(first|refine Eq.trans (if_pos (by first|assumption|omega|trivial|exact decide_eq_true (by first|assumption|omega)|(simp only[decide_eq_true_eq];first|assumption|omega)|(simp;done)|(simp;omega))) ?_|refine Eq.trans (if_neg (by first|assumption|omega|(intro hh;have:=of_decide_eq_true hh;first|contradiction|omega)|(simp only[decide_eq_true_eq];first|assumption|omega)|(simp;done)|(simp;omega))) ?_));try rfl)) ((je e hs).bind ?_)
  cases jK e
  ·exact qW (by simp) (Ev.now _)
  ·exact vm rfl (Ev.now _)
 ·have hf : ∀ k, qF.f k a b c d e f = qF.j0 k true a b c d e f := fun k => by
   unfold qF.f
   repeat' split
   all_goals first | rfl | skip
   rw [decide_eq_true]
   exact Classical.byContradiction fun hh => hn (decide_eq_true (by omega))
  refine Ev.congr hf (jo jt ?_)
  unfold jR
  rw [if_neg hn]
theorem ans_ev (a b c : Int) (d : Bool) (e : ByteArray) (f : Int) (hs : e.size ≤ 1073741824) : Ev (fun k => qY.f k a b c d e f) (jR a b c e f) := by
 have jt : Ev (fun k => qY.j0 k true a b c d e f) 6 := Ev.step (f := fun _ => some 6) (fun k => by simp only [qY.j0]; ((repeat(first|refine Eq.trans (if_pos (by first|assumption|omega|trivial|exact decide_eq_true (by first|assumption|omega)|(simp only[decide_eq_true_eq];first|assumption|omega)|(simp;done)|(simp;omega))) ?_|refine Eq.trans (if_neg (by first|assumption|omega|(intro hh;have:=of_decide_eq_true hh;first|contradiction|omega)|(simp only[decide_eq_true_eq];first|assumption|omega)|(simp;done)|(simp;omega))) ?_));try rfl)) (Ev.now _)
 by_cases hn : numB a b c f = true
 ·have hn' := of_decide_eq_true hn
  unfold qY.f jR
  rw [if_pos hn]
  refine qW (by omega) (qW (by omega) (qW (by omega) (qW (by omega) (qW (by omega) (qW (by omega) (qW (by omega) ?_))))))
  rw [decide_eq_false (by omega)]
  have hv : Ev (fun k => vX.f k e) (jK e) := by
   unfold vX.f
   exact qW (by omega) ((je e hs).bind (Ev.now _))
  refine Ev.step (fun k => by simp only [qY.j0]; ((repeat(first|refine Eq.trans (if_pos (by first|assumption|omega|trivial|exact decide_eq_true (by first|assumption|omega)|(simp only[decide_eq_true_eq];first|assumption|omega)|(simp;done)|(simp;omega))) ?_|refine Eq.trans (if_neg (by first|assumption|omega|(intro hh;have:=of_decide_eq_true hh;first|contradiction|omega)|(simp only[decide_eq_true_eq];first|assumption|omega)|(simp;done)|(simp;omega))) ?_));try rfl)) (hv.bind ?_)
  cases jK e
  ·exact qW (by simp) (Ev.now _)
  ·exact vm rfl (Ev.now _)
 ·have hf : ∀ k, qY.f k a b c d e f = qY.j0 k true a b c d e f := fun k => by
   unfold qY.f
   repeat' split
   all_goals first | rfl | skip
   rw [decide_eq_true]
   exact Classical.byContradiction fun hh => hn (decide_eq_true (by omega))
  refine Ev.congr hf (jo jt ?_)
  unfold jR
  rw [if_neg hn]
end Go.Proofs.YtalpmbeddldfoaaDoor.PA
end
end
section
/- Pairs that may be in the older schema; what a look for a key tells. -/
set_option linter.unusedVariables false
set_option linter.unusedSimpArgs false
namespace Go.Proofs.YtalpmbeddldfoaaDoor.PA
open Go.RowKit Go.IntWalk Go.Proofs.YtalpmbeddldfoaaDoorW.PrintWords Go.Proofs.YtalpmbeddldfoaaDoor.Hand
def Zi (s : ByteArray) : Prop := Ev (fun k => qy.f k s) true
def Zp (s : ByteArray) : Prop := Ev (fun k => qv.f k s) true
def Ok1 (l : List vP) : Prop := (∀ j, j < l.length → Zi (pg l j).f0 ∧ Zp (pg l j).f1 ∧ (pg l j).f2 = 0) ∧ l.length ≤ 64 ∧ UpP l
theorem Vh (l : List vP) (hl : l.length ≤ 1000) (hu : UpP l) : ∀ (m i : Nat), 1 ≤ i → l.length ≤ i + m → Ev (fun k => qN.l0 k l (i : Int)) true
 | m, i, h1, h2 => by
  by_cases h : i < l.length
  ·obtain ⟨m, rfl⟩ : ∃ m', m = m' + 1 := ⟨m - 1, by omega⟩
   have e1 := jP i h1 (by omega)
   have e2 := zt i (by omega)
   have hc := hu i h1 h
   refine Ev.step (fun k => ?_) (Vh l hl hu m (i + 1) (by omega) (by omega))
   simp only [qN.l0, e1, e2, Qe]
   ((repeat(first|refine Eq.trans (if_pos (by first|assumption|omega|trivial|exact decide_eq_true (by first|assumption|omega)|(simp only[decide_eq_true_eq];first|assumption|omega)|(simp;done)|(simp;omega))) ?_|refine Eq.trans (if_neg (by first|assumption|omega|(intro hh;have:=of_decide_eq_true hh;first|contradiction|omega)|(simp only[decide_eq_true_eq];first|assumption|omega)|(simp;done)|(simp;omega))) ?_));try rfl)
  ·refine Ev.step (f := fun _ => some true) (fun k => ?_) (Ev.now _)
   simp only [qN.l0]
   ((repeat(first|refine Eq.trans (if_pos (by first|assumption|omega|trivial|exact decide_eq_true (by first|assumption|omega)|(simp only[decide_eq_true_eq];first|assumption|omega)|(simp;done)|(simp;omega))) ?_|refine Eq.trans (if_neg (by first|assumption|omega|(intro hh;have:=of_decide_eq_true hh;first|contradiction|omega)|(simp only[decide_eq_true_eq];first|assumption|omega)|(simp;done)|(simp;omega))) ?_));try rfl)
theorem Vk (l : List vP) (i : Nat) (h : i < l.length) (hl : l.length ≤ 1000) : ∀ k, qk.l0 (k + 1) 1 l (i : Int) = (qy.f k (pg l i).f0).bind fun t => (if t = true then ((qv.f k (pg l i).f1).bind fun t2 => (qk.j1 k 1 l (i : Int) (!t2))) else (qk.j1 k 1 l (i : Int) true)) := fun k => by
 simp only [qk.l0, Qe]
 ((repeat(first|refine Eq.trans (if_pos (by first|assumption|omega|trivial|exact decide_eq_true (by first|assumption|omega)|(simp only[decide_eq_true_eq];first|assumption|omega)|(simp;done)|(simp;omega))) ?_|refine Eq.trans (if_neg (by first|assumption|omega|(intro hh;have:=of_decide_eq_true hh;first|contradiction|omega)|(simp only[decide_eq_true_eq];first|assumption|omega)|(simp;done)|(simp;omega))) ?_));try rfl)
theorem check1_bad (l : List vP) (i : Nat) : Ev (fun k => qk.j1 k 1 l (i : Int) true) false := Ev.step (f := fun _ => some false) (fun k => by simp only [qk.j1]; ((repeat(first|refine Eq.trans (if_pos (by first|assumption|omega|trivial|exact decide_eq_true (by first|assumption|omega)|(simp only[decide_eq_true_eq];first|assumption|omega)|(simp;done)|(simp;omega))) ?_|refine Eq.trans (if_neg (by first|assumption|omega|(intro hh;have:=of_decide_eq_true hh;first|contradiction|omega)|(simp only[decide_eq_true_eq];first|assumption|omega)|(simp;done)|(simp;omega))) ?_));try rfl)) (Ev.now _)
theorem Vu (l : List vP) (hl : l.length ≤ 1000) (hz : ∀ j, j < l.length → (pg l j).f0.size ≤ 200 ∧ (pg l j).f1.size ≤ 200) : ∀ (m i : Nat), l.length ≤ i + m → (∀ j, j < i → j < l.length → Zi (pg l j).f0 ∧ Zp (pg l j).f1 ∧ (pg l j).f2 = 0) →
 ∃ b, Ev (fun k => qk.l0 k 1 l (i : Int)) b ∧ (b = true → Ok1 l)
 | m, i, hm, hr => by
  by_cases h : i < l.length
  ·obtain ⟨m, rfl⟩ : ∃ m', m = m' + 1 := ⟨m - 1, by omega⟩
   have e2 := zt i (by omega)
   obtain ⟨hz0, hz1⟩ := hz i h
   obtain ⟨b1, h1⟩ := key_ev (pg l i).f0 (by omega)
   have wt := check1_bad l i
   have st := Vk l i h hl
   cases b1
   ·refine ⟨false, Ev.step st ?_, by simp⟩
    exact h1.bind (qW (by simp) wt)
   ·obtain ⟨b2, h2⟩ := val_ev (pg l i).f1 (by omega)
    cases b2
    ·refine ⟨false, Ev.step st ?_, by simp⟩
     exact h1.bind (vm rfl (h2.bind wt))
    ·by_cases c1 : (pg l i).f2 = 0
     ·obtain ⟨b, hb, hs⟩ := Vu l hl hz m (i + 1) (by omega) (fun j hj hk => by
       by_cases e : j = i
       ·subst e; exact ⟨h1, h2, c1⟩
       ·exact hr j (by omega) hk)
      refine ⟨b, Ev.step st ?_, hs⟩
      refine h1.bind (vm rfl (h2.bind ?_))
      exact Ev.step (fun k => by simp only [qk.j1, Qe, e2]; ((repeat(first|refine Eq.trans (if_pos (by first|assumption|omega|trivial|exact decide_eq_true (by first|assumption|omega)|(simp only[decide_eq_true_eq];first|assumption|omega)|(simp;done)|(simp;omega))) ?_|refine Eq.trans (if_neg (by first|assumption|omega|(intro hh;have:=of_decide_eq_true hh;first|contradiction|omega)|(simp only[decide_eq_true_eq];first|assumption|omega)|(simp;done)|(simp;omega))) ?_));try rfl)) hb
     ·refine ⟨false, Ev.step st ?_, by simp⟩
      refine h1.bind (vm rfl (h2.bind ?_))
      exact Ev.step (f := fun _ => some false) (fun k => by simp only [qk.j1, Qe]; ((repeat(first|refine Eq.trans (if_pos (by first|assumption|omega|trivial|exact decide_eq_true (by first|assumption|omega)|(simp only[decide_eq_true_eq];first|assumption|omega)|(simp;done)|(simp;omega))) ?_|refine Eq.trans (if_neg (by first|assumption|omega|(intro hh;have:=of_decide_eq_true hh;first|contradiction|omega)|(simp only[decide_eq_true_eq];first|assumption|omega)|(simp;done)|(simp;omega))) ?_));try rfl)) (Ev.now _)
  ·by_cases c : (l.length : Int) ≤ 64
   ·obtain ⟨b, hb, hs⟩ := VV l hl
    refine ⟨b, Ev.step (fun k => ?_) (hb.bind (Ev.now _)), fun e => ⟨fun j hj => hr j (by omega) hj, by omega, hs e⟩⟩
    simp only [qk.l0]
    ((repeat(first|refine Eq.trans (if_pos (by first|assumption|omega|trivial|exact decide_eq_true (by first|assumption|omega)|(simp only[decide_eq_true_eq];first|assumption|omega)|(simp;done)|(simp;omega))) ?_|refine Eq.trans (if_neg (by first|assumption|omega|(intro hh;have:=of_decide_eq_true hh;first|contradiction|omega)|(simp only[decide_eq_true_eq];first|assumption|omega)|(simp;done)|(simp;omega))) ?_));try rfl)
   ·refine ⟨false, Ev.step (f := fun _ => some false) (fun k => ?_) (Ev.now _), by simp⟩
    simp only [qk.l0]
    ((repeat(first|refine Eq.trans (if_pos (by first|assumption|omega|trivial|exact decide_eq_true (by first|assumption|omega)|(simp only[decide_eq_true_eq];first|assumption|omega)|(simp;done)|(simp;omega))) ?_|refine Eq.trans (if_neg (by first|assumption|omega|(intro hh;have:=of_decide_eq_true hh;first|contradiction|omega)|(simp only[decide_eq_true_eq];first|assumption|omega)|(simp;done)|(simp;omega))) ?_));try rfl)
theorem check1_ev (l : List vP) (hl : l.length ≤ 1000) (hz : ∀ j, j < l.length → (pg l j).f0.size ≤ 200 ∧ (pg l j).f1.size ≤ 200) : ∃ b, Ev (fun k => qk.f k 1 l) b ∧ (b = true → Ok1 l) :=
 Vu l hl hz l.length 0 (by omega) (fun j hj _ => by omega)
theorem Vj (l : List vP) (ho : Ok1 l) : ∀ (m i : Nat), l.length ≤ i + m → Ev (fun k => qk.l0 k 1 l (i : Int)) true
 | m, i, hm => by
  obtain ⟨hr, h64, hu⟩ := ho
  by_cases h : i < l.length
  ·obtain ⟨m, rfl⟩ : ∃ m', m = m' + 1 := ⟨m - 1, by omega⟩
   have e2 := zt i (by omega)
   obtain ⟨h1, h2, c1⟩ := hr i h
   have st := Vk l i h (by omega)
   refine Ev.step st (Ev.bind h1 (vm rfl (Ev.bind h2 ?_)))
   exact Ev.step (fun k => by simp only [qk.j1, Qe, e2]; ((repeat(first|refine Eq.trans (if_pos (by first|assumption|omega|trivial|exact decide_eq_true (by first|assumption|omega)|(simp only[decide_eq_true_eq];first|assumption|omega)|(simp;done)|(simp;omega))) ?_|refine Eq.trans (if_neg (by first|assumption|omega|(intro hh;have:=of_decide_eq_true hh;first|contradiction|omega)|(simp only[decide_eq_true_eq];first|assumption|omega)|(simp;done)|(simp;omega))) ?_));try rfl)) (Vj l ⟨hr, h64, hu⟩ m (i + 1) (by omega))
  ·have hb := Vh l (by omega) hu l.length 1 (by omega) (by omega)
   refine Ev.step (fun k => ?_) (Ev.bind (g := fun k => qN.f k l) hb (Ev.now _))
   simp only [qk.l0]
   ((repeat(first|refine Eq.trans (if_pos (by first|assumption|omega|trivial|exact decide_eq_true (by first|assumption|omega)|(simp only[decide_eq_true_eq];first|assumption|omega)|(simp;done)|(simp;omega))) ?_|refine Eq.trans (if_neg (by first|assumption|omega|(intro hh;have:=of_decide_eq_true hh;first|contradiction|omega)|(simp only[decide_eq_true_eq];first|assumption|omega)|(simp;done)|(simp;omega))) ?_));try rfl)
end Go.Proofs.YtalpmbeddldfoaaDoor.PA
end
