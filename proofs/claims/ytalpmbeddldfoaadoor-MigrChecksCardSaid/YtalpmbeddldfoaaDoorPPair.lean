/- What the pair tables' functions answer, in plain lists. -/
import Derived.Test.YtalpmbeddldfoaaDoorHandU8
import Derived.Test.YtalpmbeddldfoaaDoorR
import Derived.Test.YtalpmbeddldfoaaDoorFRunesVal
import Derived.Test.YtalpmbeddldfoaaDoorFChangeoverref23Large
import Derived.Test.YtalpmbeddldfoaaDoorFChangeoverref23Place
import Derived.Test.YtalpmbeddldfoaaDoorFChangeoverref23Same
import Derived.Test.YtalpmbeddldfoaaDoorFKvoneFind
import Derived.Test.YtalpmbeddldfoaaDoorFApiPair87
import Derived.Test.YtalpmbeddldfoaaDoorFApiPair143
import Derived.Test.YtalpmbeddldfoaaDoorFApiPair146
import Derived.Test.YtalpmbeddldfoaaDoorFKvtwoSet
set_option linter.unusedVariables false
set_option linter.unusedSimpArgs false
namespace Go.Proofs.YtalpmbeddldfoaaDoor.PA
open Go.RowKit Go.IntWalk Go.Proofs.YtalpmbeddldfoaaDoorW.PrintWords Go.Proofs.YtalpmbeddldfoaaDoor.Hand
theorem Vv (a : List UInt8) : ¬ Op.bytesLess a a = true := by
 have h := jb a a
 simp at h
 simp [h]
theorem jZ : ∀ {a b c : List UInt8}, Op.bytesLess a b = true → Op.bytesLess b c = true → Op.bytesLess a c = true
 | [], [], _, h, _ => by simp [Op.bytesLess] at h
 | [], _ :: _, [], _, h => by simp [Op.bytesLess] at h
 | [], _ :: _, _ :: _, _, _ => by simp [Op.bytesLess]
 | _ :: _, [], _, h, _ => by simp [Op.bytesLess] at h
 | _ :: _, _ :: _, [], _, h => by simp [Op.bytesLess] at h
 | x :: xs, y :: ys, z :: zs, h1, h2 => by
  simp only [Op.bytesLess] at h1 h2 ⊢
  by_cases e1 : x < y
  ·by_cases e2 : y < z
   ·have : x < z := by rw [UInt8.lt_iff_toNat_lt] at *; omega
    simp [this]
   ·by_cases e3 : y = z
    ·subst e3; simp [e1]
    ·simp [e2, e3] at h2
  ·by_cases e3 : x = y
   ·subst e3
    by_cases e2 : x < z
    ·simp [e2]
    ·by_cases e4 : x = z
     ·subst e4
      simp [e1] at h1 h2 ⊢
      exact jZ h1 h2
     ·simp [e2, e4] at h2
   ·simp [e1, e3] at h1
theorem less_tri {a b : List UInt8} (h : ¬ Op.bytesLess a b = true) (k : ¬ Op.bytesLess b a = true) : a = b := by
 have h' := jb a b
 have h1 : Op.bytesLess a b = false := by simpa using h
 have h2 : Op.bytesLess b a = false := by simpa using k
 rw [h1, h2] at h'
 simpa using h'
abbrev pg (l : List vP) (i : Nat) : vP := l.getD i z50
abbrev kk (l : List vP) (i : Nat) : List UInt8 := (pg l i).f0.toList
theorem Qe (l : List vP) (i : Nat) : qj l (i : Int) = pg l i := rfl
def UpP (l : List vP) : Prop := ∀ j, 1 ≤ j → j < l.length → Op.bytesLess (kk l (j - 1)) (kk l j) = true
theorem UpP.lt {l : List vP} (h : UpP l) : ∀ {i j : Nat}, i < j → j < l.length → Op.bytesLess (kk l i) (kk l j) = true := by
 intro i j hij
 induction j with
 | zero => omega
 | succ j ih =>
  intro hj
  have := h (j + 1) (by omega) hj
  rw [Nat.add_sub_cancel] at this
  by_cases e : i = j
  ·subst e; exact this
  ·exact jZ (ih (by omega) (by omega)) this
theorem VP (l : List vP) (hl : l.length ≤ 1000) : ∀ (m i : Nat), 1 ≤ i → l.length ≤ i + m → (∀ j, 1 ≤ j → j < i → j < l.length → Op.bytesLess (kk l (j - 1)) (kk l j) = true) →
 ∃ b, Ev (fun k => qN.l0 k l (i : Int)) b ∧ (b = true → UpP l)
 | m, i, h1, h2, h3 => by
  by_cases h : i < l.length
  ·obtain ⟨m, rfl⟩ : ∃ m', m = m' + 1 := ⟨m - 1, by omega⟩
   have e1 := jP i h1 (by omega)
   have e2 := zt i (by omega)
   by_cases hc : Op.bytesLess (kk l (i - 1)) (kk l i) = true
   ·obtain ⟨b, hb, hs⟩ := VP l hl m (i + 1) (by omega) (by omega) (fun j ha hb hd => by
     by_cases e : j = i
     ·subst e; exact hc
     ·exact h3 j ha (by omega) hd)
    refine ⟨b, Ev.step (fun k => ?_) hb, hs⟩
    simp only [qN.l0, e1, e2, Qe]
    ((repeat(first|refine Eq.trans (if_pos (by first|assumption|omega|trivial|exact decide_eq_true (by first|assumption|omega)|(simp only[decide_eq_true_eq];first|assumption|omega)|(simp;done)|(simp;omega))) ?_|refine Eq.trans (if_neg (by first|assumption|omega|(intro hh;have:=of_decide_eq_true hh;first|contradiction|omega)|(simp only[decide_eq_true_eq];first|assumption|omega)|(simp;done)|(simp;omega))) ?_));try rfl)
   ·refine ⟨false, Ev.step (f := fun _ => some false) (fun k => ?_) (Ev.now _), by simp⟩
    simp only [qN.l0, e1, e2, Qe]
    ((repeat(first|refine Eq.trans (if_pos (by first|assumption|omega|trivial|exact decide_eq_true (by first|assumption|omega)|(simp only[decide_eq_true_eq];first|assumption|omega)|(simp;done)|(simp;omega))) ?_|refine Eq.trans (if_neg (by first|assumption|omega|(intro hh;have:=of_decide_eq_true hh;first|contradiction|omega)|(simp only[decide_eq_true_eq];first|assumption|omega)|(simp;done)|(simp;omega))) ?_));try rfl)
  ·refine ⟨true, Ev.step (f := fun _ => some true) (fun k => ?_) (Ev.now _), fun _ j ha hb => h3 j ha (by omega) hb⟩
   simp only [qN.l0]
   ((repeat(first|refine Eq.trans (if_pos (by first|assumption|omega|trivial|exact decide_eq_true (by first|assumption|omega)|(simp only[decide_eq_true_eq];first|assumption|omega)|(simp;done)|(simp;omega))) ?_|refine Eq.trans (if_neg (by first|assumption|omega|(intro hh;have:=of_decide_eq_true hh;first|contradiction|omega)|(simp only[decide_eq_true_eq];first|assumption|omega)|(simp;done)|(simp;omega))) ?_));try rfl)
theorem VV (l : List vP) (hl : l.length ≤ 1000) : ∃ b, Ev (fun k => qN.f k l) b ∧ (b = true → UpP l) :=
 VP l hl l.length 1 (by omega) (by omega) (fun j ha hb _ => by omega)
theorem Vs (l : List vP) (hl : l.length ≤ 9223372036854775807) : ∀ (m i : Nat), 81 ≤ i + m → (∀ j, j < i → j < l.length → (pg l j).f0.size ≤ 200 ∧ (pg l j).f1.size ≤ 200) →
 ∃ b, Ev (fun k => qD.l0 k l (i : Int)) b ∧ (b = false → l.length ≤ 80 ∧ ∀ j, j < l.length → (pg l j).f0.size ≤ 200 ∧ (pg l j).f1.size ≤ 200)
 | m, i, h2, h3 => by
  by_cases h : i < l.length
  ·by_cases h40 : i < 80
   ·obtain ⟨m, rfl⟩ : ∃ m', m = m' + 1 := ⟨m - 1, by omega⟩
    have e2 := zt i (by omega)
    by_cases hc : ((pg l i).f0.size : Int) > 200
    ·refine ⟨true, Ev.step (f := fun k => qD.j1 k l i (decide ((i : Int) < 80))) (fun k => ?_) (Ev.step (f := fun _ => some true) (fun k => ?_) (Ev.now _)), by simp⟩
     ·simp only [qD.l0]
      ((repeat(first|refine Eq.trans (if_pos (by first|assumption|omega|trivial|exact decide_eq_true (by first|assumption|omega)|(simp only[decide_eq_true_eq];first|assumption|omega)|(simp;done)|(simp;omega))) ?_|refine Eq.trans (if_neg (by first|assumption|omega|(intro hh;have:=of_decide_eq_true hh;first|contradiction|omega)|(simp only[decide_eq_true_eq];first|assumption|omega)|(simp;done)|(simp;omega))) ?_));try rfl)
     ·simp only [qD.j1, Qe]
      ((repeat(first|refine Eq.trans (if_pos (by first|assumption|omega|trivial|exact decide_eq_true (by first|assumption|omega)|(simp only[decide_eq_true_eq];first|assumption|omega)|(simp;done)|(simp;omega))) ?_|refine Eq.trans (if_neg (by first|assumption|omega|(intro hh;have:=of_decide_eq_true hh;first|contradiction|omega)|(simp only[decide_eq_true_eq];first|assumption|omega)|(simp;done)|(simp;omega))) ?_));try rfl)
    ·by_cases hc2 : ((pg l i).f1.size : Int) > 200
     ·refine ⟨true, Ev.step (f := fun k => qD.j1 k l i (decide ((i : Int) < 80))) (fun k => ?_) (Ev.step (f := fun _ => some true) (fun k => ?_) (Ev.now _)), by simp⟩
      ·simp only [qD.l0]
       ((repeat(first|refine Eq.trans (if_pos (by first|assumption|omega|trivial|exact decide_eq_true (by first|assumption|omega)|(simp only[decide_eq_true_eq];first|assumption|omega)|(simp;done)|(simp;omega))) ?_|refine Eq.trans (if_neg (by first|assumption|omega|(intro hh;have:=of_decide_eq_true hh;first|contradiction|omega)|(simp only[decide_eq_true_eq];first|assumption|omega)|(simp;done)|(simp;omega))) ?_));try rfl)
      ·simp only [qD.j1, Qe]
       ((repeat(first|refine Eq.trans (if_pos (by first|assumption|omega|trivial|exact decide_eq_true (by first|assumption|omega)|(simp only[decide_eq_true_eq];first|assumption|omega)|(simp;done)|(simp;omega))) ?_|refine Eq.trans (if_neg (by first|assumption|omega|(intro hh;have:=of_decide_eq_true hh;first|contradiction|omega)|(simp only[decide_eq_true_eq];first|assumption|omega)|(simp;done)|(simp;omega))) ?_));try rfl)
     ·obtain ⟨b, hb, hs⟩ := Vs l hl m (i + 1) (by omega) (fun j hj hk => by
       by_cases e : j = i
       ·subst e; omega
       ·exact h3 j (by omega) hk)
      refine ⟨b, Ev.step (f := fun k => qD.j1 k l i (decide ((i : Int) < 80))) (fun k => ?_) (Ev.step (fun k => ?_) hb), hs⟩
      ·simp only [qD.l0]
       ((repeat(first|refine Eq.trans (if_pos (by first|assumption|omega|trivial|exact decide_eq_true (by first|assumption|omega)|(simp only[decide_eq_true_eq];first|assumption|omega)|(simp;done)|(simp;omega))) ?_|refine Eq.trans (if_neg (by first|assumption|omega|(intro hh;have:=of_decide_eq_true hh;first|contradiction|omega)|(simp only[decide_eq_true_eq];first|assumption|omega)|(simp;done)|(simp;omega))) ?_));try rfl)
      ·simp only [qD.j1, Qe, e2]
       ((repeat(first|refine Eq.trans (if_pos (by first|assumption|omega|trivial|exact decide_eq_true (by first|assumption|omega)|(simp only[decide_eq_true_eq];first|assumption|omega)|(simp;done)|(simp;omega))) ?_|refine Eq.trans (if_neg (by first|assumption|omega|(intro hh;have:=of_decide_eq_true hh;first|contradiction|omega)|(simp only[decide_eq_true_eq];first|assumption|omega)|(simp;done)|(simp;omega))) ?_));try rfl)
   ·refine ⟨decide ((l.length : Int) > 80), Ev.step (f := fun k => qD.j1 k l i (decide ((i : Int) < 80))) (fun k => ?_) (Ev.step (f := fun _ => some (decide ((l.length : Int) > 80))) (fun k => ?_) (Ev.now _)), fun hb => ⟨by simp at hb; omega, fun j hj => h3 j (by simp at hb; omega) hj⟩⟩
    ·simp only [qD.l0]
     ((repeat(first|refine Eq.trans (if_pos (by first|assumption|omega|trivial|exact decide_eq_true (by first|assumption|omega)|(simp only[decide_eq_true_eq];first|assumption|omega)|(simp;done)|(simp;omega))) ?_|refine Eq.trans (if_neg (by first|assumption|omega|(intro hh;have:=of_decide_eq_true hh;first|contradiction|omega)|(simp only[decide_eq_true_eq];first|assumption|omega)|(simp;done)|(simp;omega))) ?_));try rfl)
    ·simp only [qD.j1]
     ((repeat(first|refine Eq.trans (if_pos (by first|assumption|omega|trivial|exact decide_eq_true (by first|assumption|omega)|(simp only[decide_eq_true_eq];first|assumption|omega)|(simp;done)|(simp;omega))) ?_|refine Eq.trans (if_neg (by first|assumption|omega|(intro hh;have:=of_decide_eq_true hh;first|contradiction|omega)|(simp only[decide_eq_true_eq];first|assumption|omega)|(simp;done)|(simp;omega))) ?_));try rfl)
  ·refine ⟨decide ((l.length : Int) > 80), Ev.step (f := fun k => qD.j1 k l i false) (fun k => ?_) (Ev.step (f := fun _ => some (decide ((l.length : Int) > 80))) (fun k => ?_) (Ev.now _)), fun hb => ⟨by simp at hb; omega, fun j hj => h3 j (by omega) hj⟩⟩
   ·simp only [qD.l0]
    ((repeat(first|refine Eq.trans (if_pos (by first|assumption|omega|trivial|exact decide_eq_true (by first|assumption|omega)|(simp only[decide_eq_true_eq];first|assumption|omega)|(simp;done)|(simp;omega))) ?_|refine Eq.trans (if_neg (by first|assumption|omega|(intro hh;have:=of_decide_eq_true hh;first|contradiction|omega)|(simp only[decide_eq_true_eq];first|assumption|omega)|(simp;done)|(simp;omega))) ?_));try rfl)
   ·simp only [qD.j1]
    ((repeat(first|refine Eq.trans (if_pos (by first|assumption|omega|trivial|exact decide_eq_true (by first|assumption|omega)|(simp only[decide_eq_true_eq];first|assumption|omega)|(simp;done)|(simp;omega))) ?_|refine Eq.trans (if_neg (by first|assumption|omega|(intro hh;have:=of_decide_eq_true hh;first|contradiction|omega)|(simp only[decide_eq_true_eq];first|assumption|omega)|(simp;done)|(simp;omega))) ?_));try rfl)
theorem largeP_ev (l : List vP) (hl : l.length ≤ 9223372036854775807) : ∃ b, Ev (fun k => qD.f k l) b ∧ (b = false → l.length ≤ 80 ∧ ∀ j, j < l.length → (pg l j).f0.size ≤ 200 ∧ (pg l j).f1.size ≤ 200) :=
 Vs l hl 81 0 (by omega) (fun j hj _ => by omega)
structure AtP (l : List vP) (c : List UInt8) (i : Nat) : Prop where
 le : i ≤ l.length
 lo : ∀ j, j < i → Op.bytesLess (kk l j) c = true
 hi : ∀ j, i ≤ j → j < l.length → ¬ Op.bytesLess (kk l j) c = true
theorem Qk (l : List vP) (c : ByteArray) (hl : l.length ≤ 1000) (hu : UpP l) : ∀ (m i j : Nat), j ≤ i + m → i ≤ j → j ≤ l.length → (∀ q, q < i → Op.bytesLess (kk l q) c.toList = true) → (∀ q, j ≤ q → q < l.length → ¬ Op.bytesLess (kk l q) c.toList = true) →
 ∃ r, AtP l c.toList r ∧ Ev (fun k => vJ.l0 k l c (i : Int) (j : Int)) ((r : Int), decide (r < l.length ∧ kk l r = c.toList))
 | m, i, j, hm, hij, hj, hlo, hhi => by
  by_cases h : i < j
  ·obtain ⟨m, rfl⟩ : ∃ m', m = m' + 1 := ⟨m - 1, by omega⟩
   have e1 := mid_nat i j (by omega)
   have e2 := zt ((i + j) / 2) (by omega)
   by_cases hc : Op.bytesLess (kk l ((i + j) / 2)) c.toList = true
   ·obtain ⟨r, ha, hr⟩ := Qk l c hl hu m ((i + j) / 2 + 1) j (by omega) (by omega) hj (fun q hq => by
     by_cases e : q = (i + j) / 2
     ·subst e; exact hc
     ·exact jZ (hu.lt (show q < (i + j) / 2 by omega) (by omega)) hc) hhi
    refine ⟨r, ha, Ev.step (fun k => ?_) hr⟩
    simp only [vJ.l0, e1, e2, Qe]
    ((repeat(first|refine Eq.trans (if_pos (by first|assumption|omega|trivial|exact decide_eq_true (by first|assumption|omega)|(simp only[decide_eq_true_eq];first|assumption|omega)|(simp;done)|(simp;omega))) ?_|refine Eq.trans (if_neg (by first|assumption|omega|(intro hh;have:=of_decide_eq_true hh;first|contradiction|omega)|(simp only[decide_eq_true_eq];first|assumption|omega)|(simp;done)|(simp;omega))) ?_));try rfl)
   ·obtain ⟨r, ha, hr⟩ := Qk l c hl hu m i ((i + j) / 2) (by omega) (by omega) (by omega) hlo (fun q hq hql hh => by
     by_cases e : q = (i + j) / 2
     ·subst e; exact hc hh
     ·exact hc (jZ (hu.lt (show (i + j) / 2 < q by omega) hql) hh))
    refine ⟨r, ha, Ev.step (fun k => ?_) hr⟩
    simp only [vJ.l0, e1, e2, Qe]
    ((repeat(first|refine Eq.trans (if_pos (by first|assumption|omega|trivial|exact decide_eq_true (by first|assumption|omega)|(simp only[decide_eq_true_eq];first|assumption|omega)|(simp;done)|(simp;omega))) ?_|refine Eq.trans (if_neg (by first|assumption|omega|(intro hh;have:=of_decide_eq_true hh;first|contradiction|omega)|(simp only[decide_eq_true_eq];first|assumption|omega)|(simp;done)|(simp;omega))) ?_));try rfl)
  ·have e : i = j := by omega
   subst e
   refine ⟨i, ⟨hj, hlo, hhi⟩, Ev.step (f := fun _ => some ((i : Int), decide (i < l.length ∧ kk l i = c.toList))) (fun k => ?_) (Ev.now _)⟩
   simp only [vJ.l0, Qe]
   refine Eq.trans (if_neg (by omega)) ?_
   by_cases hi : i < l.length
   ·((repeat(first|refine Eq.trans (if_pos (by first|assumption|omega|trivial|exact decide_eq_true (by first|assumption|omega)|(simp only[decide_eq_true_eq];first|assumption|omega)|(simp;done)|(simp;omega))) ?_|refine Eq.trans (if_neg (by first|assumption|omega|(intro hh;have:=of_decide_eq_true hh;first|contradiction|omega)|(simp only[decide_eq_true_eq];first|assumption|omega)|(simp;done)|(simp;omega))) ?_));try rfl)
    refine congrArg some (Prod.ext rfl ?_)
    rw [Bool.eq_iff_iff]
    simp only [beq_iff_eq, decide_eq_true_eq]
    exact ⟨fun e => ⟨hi, e⟩, fun e => e.2⟩
   ·((repeat(first|refine Eq.trans (if_pos (by first|assumption|omega|trivial|exact decide_eq_true (by first|assumption|omega)|(simp only[decide_eq_true_eq];first|assumption|omega)|(simp;done)|(simp;omega))) ?_|refine Eq.trans (if_neg (by first|assumption|omega|(intro hh;have:=of_decide_eq_true hh;first|contradiction|omega)|(simp only[decide_eq_true_eq];first|assumption|omega)|(simp;done)|(simp;omega))) ?_));try rfl)
    simp [hi]
theorem placeP_ev (l : List vP) (c : ByteArray) (hl : l.length ≤ 1000) (hu : UpP l) : ∃ r, AtP l c.toList r ∧ Ev (fun k => vJ.f k l c) ((r : Int), decide (r < l.length ∧ kk l r = c.toList)) :=
 Qk l c hl hu l.length 0 l.length (by omega) (by omega) (by omega) (fun q hq => by omega) (fun q h1 h2 => by omega)
theorem AtP.uniq {l : List vP} {c : List UInt8} {r q : Nat} (h : AtP l c r) (k : AtP l c q) : r = q := by
 rcases Nat.lt_trichotomy r q with h' | h' | h'
 ·exact absurd (k.lo r h') (h.hi r (Nat.le_refl _) (by have := k.le; omega))
 ·exact h'
 ·exact absurd (h.lo q h') (k.hi q (Nat.le_refl _) (by have := h.le; omega))
theorem AtP.dec {l : List vP} {c : List UInt8} {r : Nat} (hu : UpP l) (ha : AtP l c r) : r < l.length ∧ kk l r = c ∨ ∀ j, j < l.length → kk l j ≠ c := by
 by_cases h : r < l.length ∧ kk l r = c
 ·exact .inl h
 ·refine .inr fun j hj e => ?_
  rcases Nat.lt_or_ge j r with hlt | hge
  ·have := ha.lo j hlt; rw [e] at this; exact Vv _ this
  ·by_cases e2 : j = r
   ·subst e2; exact h ⟨hj, e⟩
   ·have h1 := ha.hi r (Nat.le_refl _) (by omega)
    have h2 := hu.lt (show r < j by omega) hj
    rw [e] at h2
    exact h1 h2
theorem AtP.only {l : List vP} {c : List UInt8} {r : Nat} (hu : UpP l) (ha : AtP l c r) {j : Nat} (hj : j < l.length) (e : kk l j = c) : j = r := by
 rcases Nat.lt_trichotomy j r with h | h | h
 ·have := ha.lo j h; rw [e] at this; exact absurd this (Vv _)
 ·exact h
 ·have h1 := ha.hi r (Nat.le_refl _) (by omega)
  have h2 := hu.lt h hj
  rw [e] at h2
  exact absurd h2 h1
theorem findP_ev (l : List vP) (c : ByteArray) (hl : l.length ≤ 1000) {r : Nat} (hr : Ev (fun k => vJ.f k l c) ((r : Int), decide (r < l.length ∧ kk l r = c.toList))) :
 Ev (fun k => zV.f k l c) (if r < l.length ∧ kk l r = c.toList then ((pg l r).f0, (pg l r).f1, (pg l r).f2, true) else ((⟨#[]⟩ : ByteArray), (⟨#[]⟩ : ByteArray), 0, false)) := by
 unfold zV.f
 refine hr.bind ?_
 dsimp only
 by_cases h : r < l.length ∧ kk l r = c.toList
 ·have := h.1
  rw [decide_eq_true h, if_pos h]
  simp only [Qe]
  (repeat (first | refine vm (by first | assumption | omega | rfl | trivial) ?_ | refine qW (by first | assumption | omega | (intro hh; have := of_decide_eq_true hh; first | contradiction | omega) | (simp; done)) ?_))
  exact Ev.now _
 ·rw [decide_eq_false h, if_neg h]
  exact qW (by simp) (Ev.now _)
theorem cloneP (l : List vP) (hl : l.length ≤ 1000) : zH.f l = some l := by
 simp only [zH.f, Option.bind_some]
 rw [if_pos (by simp; omega)]
 rfl
theorem insertP (l : List vP) (hl : l.length ≤ 1000) (r : Nat) (hr : r ≤ l.length) (x : vP) : zA.f l (r : Int) [x] = some (l.take r ++ ([x] ++ l.drop r)) := by
 simp only [zA.f, Option.bind_some, Int.toNat_natCast]
 rw [if_pos (by omega), if_pos (by omega), if_pos (by simp; omega), if_pos (by simp; omega), if_pos (by simp; omega)]
 simp
theorem search_place (l : List vP) (a b : ByteArray) (c : Int) : ∀ k i j, vN.l0 k l i j a b c = vJ.l0 k l a i j := by
 intro k
 induction k with
 | zero => intro i j; rfl
 | succ k ih => intro i j; simp only [vN.l0, vJ.l0, ih]
def putP (l : List vP) (r : Nat) (x : vP) : List vP := if r < l.length ∧ kk l r = x.f0.toList then l.set r x else l.take r ++ ([x] ++ l.drop r)
theorem setP_ev (l : List vP) (x : vP) (hl : l.length ≤ 1000) (hu : UpP l) {r : Nat} (ha : AtP l x.f0.toList r) : Ev (fun k => jd.f k l x.f0 x.f1 x.f2) (putP l r x) := by
 obtain ⟨r', ha', hr⟩ := placeP_ev l x.f0 hl hu
 obtain rfl := ha.uniq ha'
 have hs : Ev (fun k => vN.f k l x.f0 x.f1 x.f2) ((r : Int), decide (r < l.length ∧ kk l r = x.f0.toList)) := Ev.congr (fun k => search_place l x.f0 x.f1 x.f2 k 0 l.length) hr
 unfold jd.f
 refine hs.bind ?_
 dsimp only
 by_cases h : r < l.length ∧ kk l r = x.f0.toList
 ·have := h.1
  rw [decide_eq_true h]
  (repeat (first | refine vm (by first | assumption | omega | rfl | trivial) ?_ | refine qW (by first | assumption | omega | (intro hh; have := of_decide_eq_true hh; first | contradiction | omega) | (simp; done)) ?_))
  refine jo (Ev.now _) ?_
  unfold putP
  rw [if_pos h]
  rfl
 ·rw [decide_eq_false h]
  refine qW (by simp) ?_
  have hi := insertP l hl r ha.le x
  refine QQ hi (jo (Ev.now _) ?_)
  unfold putP
  rw [if_neg h]
theorem QA (l : List vP) (c : ByteArray) (hl : l.length ≤ 1000) : ∀ (m i : Nat), l.length ≤ i + m → (∀ j, j < i → kk l j ≠ c.toList) →
 ∃ a : Int, Ev (fun k => vn.l0 k l c (i : Int)) a ∧ ((∃ r : Nat, a = r ∧ r < l.length ∧ kk l r = c.toList) ∨ (a = -1 ∧ ∀ j, j < l.length → kk l j ≠ c.toList))
 | m, i, hm, hn => by
  by_cases h : i < l.length
  ·obtain ⟨m, rfl⟩ : ∃ m', m = m' + 1 := ⟨m - 1, by omega⟩
   have e2 := zt i (by omega)
   by_cases hc : kk l i = c.toList
   ·refine ⟨i, Ev.step (f := fun _ => some (i : Int)) (fun k => ?_) (Ev.now _), .inl ⟨i, rfl, h, hc⟩⟩
    simp only [vn.l0, Qe]
    ((repeat(first|refine Eq.trans (if_pos (by first|assumption|omega|trivial|exact decide_eq_true (by first|assumption|omega)|(simp only[decide_eq_true_eq];first|assumption|omega)|(simp;done)|(simp;omega))) ?_|refine Eq.trans (if_neg (by first|assumption|omega|(intro hh;have:=of_decide_eq_true hh;first|contradiction|omega)|(simp only[decide_eq_true_eq];first|assumption|omega)|(simp;done)|(simp;omega))) ?_));try rfl)
   ·obtain ⟨a, ha, hs⟩ := QA l c hl m (i + 1) (by omega) (fun j hj => by
     by_cases e : j = i
     ·subst e; exact hc
     ·exact hn j (by omega))
    refine ⟨a, Ev.step (fun k => ?_) ha, hs⟩
    simp only [vn.l0, Qe, e2]
    ((repeat(first|refine Eq.trans (if_pos (by first|assumption|omega|trivial|exact decide_eq_true (by first|assumption|omega)|(simp only[decide_eq_true_eq];first|assumption|omega)|(simp;done)|(simp;omega))) ?_|refine Eq.trans (if_neg (by first|assumption|omega|(intro hh;have:=of_decide_eq_true hh;first|contradiction|omega)|(simp only[decide_eq_true_eq];first|assumption|omega)|(simp;done)|(simp;omega))) ?_));try rfl)
  ·refine ⟨-1, Ev.step (f := fun _ => some (-1)) (fun k => ?_) (Ev.now _), .inr ⟨rfl, fun j hj => hn j (by omega)⟩⟩
   simp only [vn.l0]
   ((repeat(first|refine Eq.trans (if_pos (by first|assumption|omega|trivial|exact decide_eq_true (by first|assumption|omega)|(simp only[decide_eq_true_eq];first|assumption|omega)|(simp;done)|(simp;omega))) ?_|refine Eq.trans (if_neg (by first|assumption|omega|(intro hh;have:=of_decide_eq_true hh;first|contradiction|omega)|(simp only[decide_eq_true_eq];first|assumption|omega)|(simp;done)|(simp;omega))) ?_));try rfl)
theorem refPlace_ev (l : List vP) (c : ByteArray) (hl : l.length ≤ 1000) :
 ∃ a : Int, Ev (fun k => vn.f k l c) a ∧ ((∃ r : Nat, a = r ∧ r < l.length ∧ kk l r = c.toList) ∨ (a = -1 ∧ ∀ j, j < l.length → kk l j ≠ c.toList)) :=
 QA l c hl l.length 0 (by omega) (fun j hj => by omega)
def EqP (x y : vP) : Prop := x.f0.toList = y.f0.toList ∧ x.f1.toList = y.f1.toList ∧ x.f2 = y.f2
theorem Zf (a b : List vP) (hl : a.length ≤ 1000) (hb : a.length = b.length) (he : ∀ i, i < a.length → EqP (pg a i) (pg b i)) : ∀ (m i : Nat), a.length ≤ i + m → Ev (fun k => qQ.l0 k a b (i : Int)) true
 | m, i, hm => by
  by_cases h : i < a.length
  ·obtain ⟨m, rfl⟩ : ∃ m', m = m' + 1 := ⟨m - 1, by omega⟩
   have e2 := zt i (by omega)
   refine Ev.step (fun k => ?_) (Zf a b hl hb he m (i + 1) (by omega))
   obtain ⟨h1, h2, h3⟩ := he i h
   have hs : ¬ ((!(((pg a i).f0.toList) == ((pg b i).f0.toList)) || (!(((pg a i).f1.toList) == ((pg b i).f1.toList)) || (!((pg a i).f2 == (pg b i).f2)))) = true) := by rw [h1, h2, h3]; simp
   have hib : i < b.length := by omega
   simp only [qQ.l0, Qe, e2]
   ((repeat(first|refine Eq.trans (if_pos (by first|assumption|omega|trivial|exact decide_eq_true (by first|assumption|omega)|(simp only[decide_eq_true_eq];first|assumption|omega)|(simp;done)|(simp;omega))) ?_|refine Eq.trans (if_neg (by first|assumption|omega|(intro hh;have:=of_decide_eq_true hh;first|contradiction|omega)|(simp only[decide_eq_true_eq];first|assumption|omega)|(simp;done)|(simp;omega))) ?_));try rfl)
  ·exact Ev.step (f := fun _ => some true) (fun k => by simp only [qQ.l0]; ((repeat(first|refine Eq.trans (if_pos (by first|assumption|omega|trivial|exact decide_eq_true (by first|assumption|omega)|(simp only[decide_eq_true_eq];first|assumption|omega)|(simp;done)|(simp;omega))) ?_|refine Eq.trans (if_neg (by first|assumption|omega|(intro hh;have:=of_decide_eq_true hh;first|contradiction|omega)|(simp only[decide_eq_true_eq];first|assumption|omega)|(simp;done)|(simp;omega))) ?_));try rfl)) (Ev.now _)
theorem sameP_ev (a b : List vP) (hl : a.length ≤ 1000) (hb : a.length = b.length) (he : ∀ i, i < a.length → EqP (pg a i) (pg b i)) : Ev (fun k => qQ.f k a b) true := by
 unfold qQ.f
 exact vm (by omega) (Zf a b hl hb he a.length 0 (by omega))
def un (x : vP) : vP := ⟨x.f0, x.f1, 0⟩
theorem pg_un (l : List vP) (i : Nat) : pg (l.map un) i = un (pg l i) := by
 unfold pg
 rw [List.getD_eq_getElem?_getD, List.getD_eq_getElem?_getD, List.getElem?_map]
 cases l[i]? <;> rfl
theorem kk_un (l : List vP) (i : Nat) : kk (l.map un) i = kk l i := by
 show (pg (l.map un) i).f0.toList = _
 rw [pg_un]
 rfl
theorem UpP.un {l : List vP} (h : UpP l) : UpP (l.map un) := fun j h1 h2 => by
 rw [kk_un, kk_un]
 exact h j h1 (by simpa using h2)
end Go.Proofs.YtalpmbeddldfoaaDoor.PA
