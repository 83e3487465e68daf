/- Which pairs may be in the newer schema. -/
import Derived.Test.YtalpmbeddldfoaaDoorPKv1
import Derived.Test.YtalpmbeddldfoaaDoorPChk1
import Derived.Test.YtalpmbeddldfoaaDoorFKvtwoCheck
set_option linter.unusedVariables false
set_option linter.unusedSimpArgs false
namespace Go.Proofs.YtalpmbeddldfoaaDoor.PA
open Go.RowKit Go.IntWalk Go.Proofs.YtalpmbeddldfoaaDoorW.PrintWords Go.Proofs.YtalpmbeddldfoaaDoor.Hand
def Ok2 (l : List vP) : Prop := (∀ j, j < l.length → Zi (pg l j).f0 ∧ Zp (pg l j).f1 ∧ 1 ≤ (pg l j).f2 ∧ (pg l j).f2 ≤ 4294967296) ∧ l.length ≤ 64 ∧ UpP l
theorem QS (l : List vP) (hl : l.length ≤ 1000) (hz : ∀ j, j < l.length → (pg l j).f0.size ≤ 200 ∧ (pg l j).f1.size ≤ 200) : ∀ (m i : Nat), l.length ≤ i + m → (∀ j, j < i → j < l.length → Zi (pg l j).f0 ∧ Zp (pg l j).f1 ∧ 1 ≤ (pg l j).f2 ∧ (pg l j).f2 ≤ 4294967296) →
 ∃ b, Ev (fun k => qk.l0 k 2 l (i : Int)) b ∧ (b = true ↔ Ok2 l)
 | m, i, hm, hr => by
  by_cases h : i < l.length
  ·obtain ⟨m, rfl⟩ : ∃ m', m = m' + 1 := ⟨m - 1, by omega⟩
   have e2 := zt i (by omega)
   obtain ⟨hz0, hz1⟩ := hz i h
   have h1 := jT (pg l i).f0 (by omega)
   have h2 := je (pg l i).f1 (by omega)
   have wt : Ev (fun k => qk.j1 k 2 l (i : Int) true) false := Ev.step (f := fun _ => some false) (fun k => by simp only [qk.j1]; ((repeat(first|refine Eq.trans (if_pos (by first|assumption|omega|trivial|exact decide_eq_true (by first|assumption|omega)|(simp only[decide_eq_true_eq];first|assumption|omega)|(simp;done)|(simp;omega))) ?_|refine Eq.trans (if_neg (by first|assumption|omega|(intro hh;have:=of_decide_eq_true hh;first|contradiction|omega)|(simp only[decide_eq_true_eq];first|assumption|omega)|(simp;done)|(simp;omega))) ?_));try rfl)) (Ev.now _)
   have st : ∀ k, qk.l0 (k + 1) 2 l (i : Int) = (qy.f k (pg l i).f0).bind fun t => (if t = true then ((qv.f k (pg l i).f1).bind fun t2 => (qk.j1 k 2 l (i : Int) (!t2))) else (qk.j1 k 2 l (i : Int) true)) := fun k => by
    simp only [qk.l0, Qe]
    ((repeat(first|refine Eq.trans (if_pos (by first|assumption|omega|trivial|exact decide_eq_true (by first|assumption|omega)|(simp only[decide_eq_true_eq];first|assumption|omega)|(simp;done)|(simp;omega))) ?_|refine Eq.trans (if_neg (by first|assumption|omega|(intro hh;have:=of_decide_eq_true hh;first|contradiction|omega)|(simp only[decide_eq_true_eq];first|assumption|omega)|(simp;done)|(simp;omega))) ?_));try rfl)
   cases b1 : QH (pg l i).f0
   ·rw [b1] at h1
    refine ⟨false, Ev.step st (h1.bind (qW (by simp) wt)), by simp; exact fun hg => by have := (Qr _ (by omega)).mp (hg.1 i h).1; rw [b1] at this; simp at this⟩
   ·rw [b1] at h1
    cases b2 : jK (pg l i).f1
    ·rw [b2] at h2
     refine ⟨false, Ev.step st (h1.bind (vm rfl (h2.bind wt))), by simp; exact fun hg => by have := (Qv _ (by omega)).mp (hg.1 i h).2.1; rw [b2] at this; simp at this⟩
    ·rw [b2] at h2
     by_cases c1 : (pg l i).f2 < 1
     ·refine ⟨false, Ev.step st (h1.bind (vm rfl (h2.bind ?_))), by simp; exact fun hg => by have := (hg.1 i h).2.2; omega⟩
      exact Ev.step (f := fun _ => some false) (fun k => by simp only [qk.j1, Qe]; ((repeat(first|refine Eq.trans (if_pos (by first|assumption|omega|trivial|exact decide_eq_true (by first|assumption|omega)|(simp only[decide_eq_true_eq];first|assumption|omega)|(simp;done)|(simp;omega))) ?_|refine Eq.trans (if_neg (by first|assumption|omega|(intro hh;have:=of_decide_eq_true hh;first|contradiction|omega)|(simp only[decide_eq_true_eq];first|assumption|omega)|(simp;done)|(simp;omega))) ?_));try rfl)) (Ev.now _)
     ·by_cases c2 : (pg l i).f2 > 4294967296
      ·refine ⟨false, Ev.step st (h1.bind (vm rfl (h2.bind ?_))), by simp; exact fun hg => by have := (hg.1 i h).2.2; omega⟩
       exact Ev.step (f := fun _ => some false) (fun k => by simp only [qk.j1, Qe]; ((repeat(first|refine Eq.trans (if_pos (by first|assumption|omega|trivial|exact decide_eq_true (by first|assumption|omega)|(simp only[decide_eq_true_eq];first|assumption|omega)|(simp;done)|(simp;omega))) ?_|refine Eq.trans (if_neg (by first|assumption|omega|(intro hh;have:=of_decide_eq_true hh;first|contradiction|omega)|(simp only[decide_eq_true_eq];first|assumption|omega)|(simp;done)|(simp;omega))) ?_));try rfl)) (Ev.now _)
      ·obtain ⟨b, hb, hs⟩ := QS l hl hz m (i + 1) (by omega) (fun j hj hk => by
        by_cases e : j = i
        ·subst e; exact ⟨(Qr _ (by omega)).mpr b1, (Qv _ (by omega)).mpr b2, by omega, by omega⟩
        ·exact hr j (by omega) hk)
       refine ⟨b, Ev.step st (h1.bind (vm rfl (h2.bind ?_))), hs⟩
       exact Ev.step (fun k => by simp only [qk.j1, Qe, e2]; ((repeat(first|refine Eq.trans (if_pos (by first|assumption|omega|trivial|exact decide_eq_true (by first|assumption|omega)|(simp only[decide_eq_true_eq];first|assumption|omega)|(simp;done)|(simp;omega))) ?_|refine Eq.trans (if_neg (by first|assumption|omega|(intro hh;have:=of_decide_eq_true hh;first|contradiction|omega)|(simp only[decide_eq_true_eq];first|assumption|omega)|(simp;done)|(simp;omega))) ?_));try rfl)) hb
  ·by_cases c : (l.length : Int) ≤ 64
   ·obtain ⟨b, hb, hs⟩ := VV l hl
    refine ⟨b, Ev.step (fun k => by simp only [qk.l0]; ((repeat(first|refine Eq.trans (if_pos (by first|assumption|omega|trivial|exact decide_eq_true (by first|assumption|omega)|(simp only[decide_eq_true_eq];first|assumption|omega)|(simp;done)|(simp;omega))) ?_|refine Eq.trans (if_neg (by first|assumption|omega|(intro hh;have:=of_decide_eq_true hh;first|contradiction|omega)|(simp only[decide_eq_true_eq];first|assumption|omega)|(simp;done)|(simp;omega))) ?_));try rfl)) (hb.bind (Ev.now _)), fun e => ⟨fun j hj => hr j (by omega) hj, by omega, hs e⟩, fun hg => ?_⟩
    have := Vh l hl hg.2.2 l.length 1 (by omega) (by omega)
    exact jV hb this
   ·refine ⟨false, Ev.step (f := fun _ => some false) (fun k => by simp only [qk.l0]; ((repeat(first|refine Eq.trans (if_pos (by first|assumption|omega|trivial|exact decide_eq_true (by first|assumption|omega)|(simp only[decide_eq_true_eq];first|assumption|omega)|(simp;done)|(simp;omega))) ?_|refine Eq.trans (if_neg (by first|assumption|omega|(intro hh;have:=of_decide_eq_true hh;first|contradiction|omega)|(simp only[decide_eq_true_eq];first|assumption|omega)|(simp;done)|(simp;omega))) ?_));try rfl)) (Ev.now _), by simp; exact fun hg => by have := hg.2.1; omega⟩
theorem refChk2_ev (l : List vP) (hl : l.length ≤ 1000) (hz : ∀ j, j < l.length → (pg l j).f0.size ≤ 200 ∧ (pg l j).f1.size ≤ 200) : ∃ b, Ev (fun k => qk.f k 2 l) b ∧ (b = true ↔ Ok2 l) :=
 QS l hl hz l.length 0 (by omega) (fun j hj _ => by omega)
theorem ok1_un (l : List vP) (hr : ∀ j, j < l.length → 1 ≤ (pg l j).f2 ∧ (pg l j).f2 ≤ 4294967296) : Ok1 (l.map un) ↔ Ok2 l := by
 constructor
 ·rintro ⟨h1, h2, h3⟩
  refine ⟨fun j hj => ?_, by simpa using h2, fun j a b => ?_⟩
  ·have := h1 j (by simpa using hj)
   rw [pg_un] at this
   exact ⟨this.1, this.2.1, hr j hj⟩
  ·have := h3 j a (by simpa using b)
   rwa [kk_un, kk_un] at this
 ·rintro ⟨h1, h2, h3⟩
  refine ⟨fun j hj => ?_, by simpa using h2, h3.un⟩
  have := h1 j (by simpa using hj)
  rw [pg_un]
  exact ⟨this.1, this.2.1, rfl⟩
theorem kv2_loop (l : List vP) (hl : l.length ≤ 1000) (hz : ∀ j, j < l.length → (pg l j).f0.size ≤ 200 ∧ (pg l j).f1.size ≤ 200) : ∀ (m i : Nat), l.length ≤ i + m → (∀ j, j < i → j < l.length → 1 ≤ (pg l j).f2 ∧ (pg l j).f2 ≤ 4294967296) →
 ∃ r : Int, Ev (fun k => vM.l0 k l l (l.length : Int) (i : Int)) r ∧ ((r = 0 ∧ Ok2 l) ∨ (r = 3 ∧ ¬ Ok2 l))
 | m, i, hm, hr => by
  by_cases h : i < l.length
  ·obtain ⟨m, rfl⟩ : ∃ m', m = m' + 1 := ⟨m - 1, by omega⟩
   have e2 := zt i (by omega)
   by_cases c1 : (pg l i).f2 < 1
   ·exact ⟨3, Ev.step (f := fun _ => some 3) (fun k => by simp only [vM.l0, Qe]; ((repeat(first|refine Eq.trans (if_pos (by first|assumption|omega|trivial|exact decide_eq_true (by first|assumption|omega)|(simp only[decide_eq_true_eq];first|assumption|omega)|(simp;done)|(simp;omega))) ?_|refine Eq.trans (if_neg (by first|assumption|omega|(intro hh;have:=of_decide_eq_true hh;first|contradiction|omega)|(simp only[decide_eq_true_eq];first|assumption|omega)|(simp;done)|(simp;omega))) ?_));try rfl)) (Ev.now _), .inr ⟨rfl, fun hg => by have := (hg.1 i h).2.2; omega⟩⟩
   ·by_cases c2 : (pg l i).f2 > 4294967296
    ·exact ⟨3, Ev.step (f := fun _ => some 3) (fun k => by simp only [vM.l0, Qe]; ((repeat(first|refine Eq.trans (if_pos (by first|assumption|omega|trivial|exact decide_eq_true (by first|assumption|omega)|(simp only[decide_eq_true_eq];first|assumption|omega)|(simp;done)|(simp;omega))) ?_|refine Eq.trans (if_neg (by first|assumption|omega|(intro hh;have:=of_decide_eq_true hh;first|contradiction|omega)|(simp only[decide_eq_true_eq];first|assumption|omega)|(simp;done)|(simp;omega))) ?_));try rfl)) (Ev.now _), .inr ⟨rfl, fun hg => by have := (hg.1 i h).2.2; omega⟩⟩
    ·obtain ⟨b, hb, hs⟩ := kv2_loop l hl hz m (i + 1) (by omega) (fun j hj hk => by
      by_cases e : j = i
      ·subst e; omega
      ·exact hr j (by omega) hk)
     exact ⟨b, Ev.step (fun k => by simp only [vM.l0, Qe, e2]; ((repeat(first|refine Eq.trans (if_pos (by first|assumption|omega|trivial|exact decide_eq_true (by first|assumption|omega)|(simp only[decide_eq_true_eq];first|assumption|omega)|(simp;done)|(simp;omega))) ?_|refine Eq.trans (if_neg (by first|assumption|omega|(intro hh;have:=of_decide_eq_true hh;first|contradiction|omega)|(simp only[decide_eq_true_eq];first|assumption|omega)|(simp;done)|(simp;omega))) ?_));try rfl)) hb, hs⟩
  ·have hp := plainUn_is l hl
   obtain ⟨r, hc, hs⟩ := kvChk_ev (l.map un) (by simpa using hl) (fun j hj => by rw [pg_un]; exact hz j (by simpa using hj))
   rw [ok1_un l (fun j hj => hr j (by omega) hj)] at hs
   exact ⟨r, Ev.step (fun k => by simp only [vM.l0]; ((repeat(first|refine Eq.trans (if_pos (by first|assumption|omega|trivial|exact decide_eq_true (by first|assumption|omega)|(simp only[decide_eq_true_eq];first|assumption|omega)|(simp;done)|(simp;omega))) ?_|refine Eq.trans (if_neg (by first|assumption|omega|(intro hh;have:=of_decide_eq_true hh;first|contradiction|omega)|(simp only[decide_eq_true_eq];first|assumption|omega)|(simp;done)|(simp;omega))) ?_));try rfl)) (hp.bind (hc.bind (Ev.now _))), hs⟩
theorem kv2Chk_ev (l : List vP) (hl : l.length ≤ 1000) (hz : ∀ j, j < l.length → (pg l j).f0.size ≤ 200 ∧ (pg l j).f1.size ≤ 200) : ∃ r : Int, Ev (fun k => vM.f k l) r ∧ ((r = 0 ∧ Ok2 l) ∨ (r = 3 ∧ ¬ Ok2 l)) :=
 kv2_loop l hl hz l.length 0 (by omega) (fun j hj _ => by omega)
end Go.Proofs.YtalpmbeddldfoaaDoor.PA
