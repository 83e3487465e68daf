import Derived.Test.YtalpmbeddldfoaaDoorF0
import Derived.Test.YtalpmbeddldfoaaDoorPChk1
import Derived.Test.YtalpmbeddldfoaaDoorPKeyVal
import Derived.Test.YtalpmbeddldfoaaDoorFKvoneCheck
section
namespace Go.Proofs.YtalpmbeddldfoaaDoor.PA
open Go.RowKit Go.Proofs.YtalpmbeddldfoaaDoor.Hand Go.Proofs.YtalpmbeddldfoaaDoorW.PrintWords Go.Proofs.YtalpmbeddldfoaaDoorW.PrintLast Go.Proofs.YtalpmbeddldfoaaDoorW.PrintMore
attribute [local go_sem] vW vV zc zb vG vF vU vT
attribute [local go_sem high] za zd ze
set_option linter.unusedVariables false
set_option linter.unusedSimpArgs false
def qV.l0 : Nat→List (zo)→Int→Option (Bool)
 | 0,_,_=>none
 | k + 1,x0,x3=>if x3<(x0.length : Int) then(if 0≤x3 then(if 0≤(wrap64 (x3 - 1)) then(if(wrap64 (x3 - 1))<(x0.length : Int) then(if((qf x0 x3).f0)≤((qf x0 (wrap64 (x3 - 1))).f0) then(some false) else(qV.l0 k x0 (wrap64 (x3 + 1)))) else(none)) else(none)) else(none)) else(some true)
def qV.f(k : Nat)(l0 : List (zo)) : Option (Bool):=qV.l0 k l0 1
theorem qV.mono_l : ∀ k,(∀ y0 y1,qR (qV.l0 k y0 y1) (qV.l0 (k + 1) y0 y1))
 | 0=>fun _ _ r h=>by simp [qV.l0] at h
 | k + 1=>by
  have ih0:=qV.mono_l k
  ·intro y0 y1
   unfold qV.l0
   repeat' first
   | (with_reducible exact ih0 _ _)
   | (with_reducible exact qR.refl _)
   | (with_reducible exact qR.none _)
   | (with_reducible refine qR.ite ?_ ?_)
   | (with_reducible refine qR.bind ?_ (fun _=>?_))
   | exact ih0 _ _
   | exact qR.none _
   | refine qR.ite ?_ ?_
   | refine qR.bind ?_ (fun _=>?_)
theorem qV.mono : ∀ a0 k,qR (qV.f k a0) (qV.f (k + 1) a0):=by
 intro a0 k;have ih0:=qV.mono_l k;unfold qV.f
 repeat' first
  | (with_reducible exact ih0 _ _)
  | (with_reducible exact qR.refl _)
  | (with_reducible exact qR.none _)
  | (with_reducible refine qR.ite ?_ ?_)
  | (with_reducible refine qR.bind ?_ (fun _=>?_))
  | exact ih0 _ _
  | exact qR.none _
  | refine qR.ite ?_ ?_
  | refine qR.bind ?_ (fun _=>?_)
set_option maxHeartbeats 8000000 in
set_option maxRecDepth 100000 in
theorem qV.calls(k : Nat)(A0 : Option Addr)(c0 : Nat)(l0 : List (zo))(r : Bool)(w : World)(hr0 : Kd.C jW w A0 l0.length l0)(hc0 : l0.length≤c0)(h : qV.f k l0=some r) :
 Calls Tryd.prog 82 #[.slice A0 l0.length c0] w fun e w'=>e = .returned (.bool r)∧qz w w':=by
 have HR0:=qb.mk hr0;have HC0:=qb.mk hc0;clear hr0 hc0;have H : (qV.l0 k l0 1)=some r:=h;clear h;have H':=qb.mk H;clear H;go_enter Tryd.func82,Tryd.ntmps82
 go_wp2
 repeat(go_quiet (fail);try go_wp2)
 go_loopg [3] k (fun kq v3 w'=>∃ (Aa : Int),v3 = .int .i64 Aa∧qb (qV.l0 kq l0 Aa=some r)∧qb (kq≤k)∧qz w w')
 case atStart=>exact⟨(1),(by first|rfl|(simp;done)|(simp [*];done)),H',⟨Nat.le_refl _⟩,by repeat(first|exact qz.refl _|apply qz.step)⟩
 case round=>
  clear H';obtain⟨Aa,rfl,HA,HK1,⟨m1,rfl⟩⟩:=hrel
  cases gk with
  | zero=>exact absurd HA.out (by simp [qV.l0])
  | succ k1=>
   have H:=HA.out;clear HA;simp only [qV.l0] at H;by_cases c2 : Aa<(l0.length : Int)
   ·rw [if_pos c2] at H
    have c2b0 : decide (Aa<(l0.length : Int))=true:=decide_eq_true c2;clear c2;by_cases c3 : 0≤Aa
    ·rw [if_pos c3] at H
     have c3b0 : decide (0≤Aa)=true:=decide_eq_true c3;clear c3;obtain⟨Ab,Ac⟩ : ∃ j_ : Int,(wrap64 (Aa - 1))=j_:=⟨_,rfl⟩;replace H : (if 0≤(Ab) then(if(Ab)<(l0.length : Int) then(if((qf l0 Aa).f0)≤((qf l0 (Ab)).f0) then(some false) else(qV.l0 k1 l0 (wrap64 (Aa + 1)))) else(none)) else(none))=some r:=by first|(rw [Ac] at H;exact H)|(simp only [Ac] at H ⊢;exact H)
     have hji4w : (IntKind.i64.wrap (Aa - 1))=Ab:=(qm _).trans Ac;by_cases c5 : 0≤(Ab)
     ·rw [if_pos c5] at H
      have c5b0 : decide (0≤(Ab))=true:=decide_eq_true c5;clear c5;by_cases c6 : (Ab)<(l0.length : Int)
      ·rw [if_pos c6] at H
       have c6b0 : decide ((Ab)<(l0.length : Int))=true:=decide_eq_true c6;clear c6;by_cases c7 : ((qf l0 Aa).f0)≤((qf l0 (Ab)).f0)
       ·rw [if_pos c7] at H
        have c7b0 : decide (((qf l0 Aa).f0)≤((qf l0 (Ab)).f0))=true:=decide_eq_true c7;clear c7;obtain rfl:=Option.some.inj H;have p248 : 0≤(Aa : Int):=of_decide_eq_true (by first|(with_reducible assumption)|assumption);have q248 : Aa<(l0.length : Int):=of_decide_eq_true (by first|(with_reducible assumption)|assumption);obtain⟨ad248,e248,Ad,Ae,Af,Ag,Ah,Ai,Aj,Ak⟩:=zp HR0.out Aa p248 q248
        cases e248
        replace p248:=eq_true p248;replace q248:=eq_true q248;have p249 : 0≤((Ab) : Int):=of_decide_eq_true (by first|(with_reducible assumption)|assumption);have q249 : (Ab)<(l0.length : Int):=of_decide_eq_true (by first|(with_reducible assumption)|assumption);obtain⟨ad249,e249,Am,Ao,Ap,Aq,Ar,As,At,Au⟩:=zp HR0.out (Ab) p249 q249;obtain rfl : ad248=ad249:=(by injection e249);replace p249:=eq_true p249;replace q249:=eq_true q249;go_wp2
        repeat(go_quiet (fail);try go_wp2)
        go_ret
        exact⟨by first|rfl|(simp;done)|(simp only [← Ac] <;> (first|rfl|simp))|(simp [*];done),by repeat(first|exact qz.refl _|apply qz.step)⟩
       ·rw [if_neg c7] at H
        have c7b0 : decide (((qf l0 Aa).f0)≤((qf l0 (Ab)).f0))=false:=decide_eq_false c7;clear c7;have H':=qb.mk H;clear H;have p248 : 0≤(Aa : Int):=of_decide_eq_true (by first|(with_reducible assumption)|assumption);have q248 : Aa<(l0.length : Int):=of_decide_eq_true (by first|(with_reducible assumption)|assumption);obtain⟨ad248,e248,Ad,Ae,Af,Ag,Ah,Ai,Aj,Ak⟩:=zp HR0.out Aa p248 q248
        cases e248
        replace p248:=eq_true p248;replace q248:=eq_true q248;have p249 : 0≤((Ab) : Int):=of_decide_eq_true (by first|(with_reducible assumption)|assumption);have q249 : (Ab)<(l0.length : Int):=of_decide_eq_true (by first|(with_reducible assumption)|assumption);obtain⟨ad249,e249,Am,Ao,Ap,Aq,Ar,As,At,Au⟩:=zp HR0.out (Ab) p249 q249;obtain rfl : ad248=ad249:=(by injection e249);replace p249:=eq_true p249;replace q249:=eq_true q249;go_wp2
        repeat(go_quiet (fail);try go_wp2)
        go_roundg k1
        case measure=>have:=HK1.out;omega
        case rel=>exact⟨(wrap64 (Aa + 1)),(by first|rfl|(simp;done)|(simp [*];done)),H',⟨by have:=HK1.out;omega⟩,by repeat(first|exact qz.refl _|apply qz.step)⟩
      ·rw [if_neg c6] at H
       exact absurd H (by simp)
     ·rw [if_neg c5] at H
      exact absurd H (by simp)
    ·rw [if_neg c3] at H
     exact absurd H (by simp)
   ·rw [if_neg c2] at H
    have c2b0 : decide (Aa<(l0.length : Int))=false:=decide_eq_false c2;clear c2;obtain rfl:=Option.some.inj H;go_wp2
    repeat(go_quiet (fail);try go_wp2)
    go_ret
    exact⟨by first|rfl|(simp;done)|(simp [*];done),by repeat(first|exact qz.refl _|apply qz.step)⟩
end Go.Proofs.YtalpmbeddldfoaaDoor.PA
end
section
/- Which pairs may be in the older schema: the program's check and the reference's. -/
set_option linter.unusedVariables false
set_option linter.unusedSimpArgs false
namespace Go.Proofs.YtalpmbeddldfoaaDoor.PA
open Go.RowKit Go.IntWalk Go.Proofs.YtalpmbeddldfoaaDoorW.PrintWords Go.Proofs.YtalpmbeddldfoaaDoor.Hand
theorem refChk1_ev (l : List vP) (hl : l.length ≤ 1000) (hz : ∀ j, j < l.length → (pg l j).f0.size ≤ 200 ∧ (pg l j).f1.size ≤ 200) : ∃ b, Ev (fun k => qk.f k 1 l) b ∧ (b = true ↔ Ok1 l) := by
 obtain ⟨b, hb, hs⟩ := check1_ev l hl hz
 exact ⟨b, hb, hs, fun ho => jV hb (Vj l ho l.length 0 (by omega))⟩
theorem rKey_ev (s : ByteArray) (hb : s.size ≤ 1073741824) : Ev (fun k => zi.f k s) (QH s) := by
 unfold zi.f
 exact qW (by omega) ((jT s hb).bind (Ev.now _))
theorem rVal_ev (s : ByteArray) (hb : s.size ≤ 1073741824) : Ev (fun k => vX.f k s) (jK s) := by
 unfold vX.f
 exact qW (by omega) ((je s hb).bind (Ev.now _))
theorem Qr (s : ByteArray) (hb : s.size ≤ 1073741824) : Zi s ↔ QH s = true := ⟨fun h => jV (jT s hb) h, fun h => by unfold Zi; rw [← h]; exact jT s hb⟩
theorem Qv (s : ByteArray) (hb : s.size ≤ 1073741824) : Zp s ↔ jK s = true := ⟨fun h => jV (je s hb) h, fun h => by unfold Zp; rw [← h]; exact je s hb⟩
theorem kv_step (l : List vP) (i : Nat) (h : i < l.length) (hl : l.length ≤ 1000) : ∀ k, qM.l0 (k + 1) l l (l.length : Int) (i : Int) =
 if 1 ≤ i ∧ ¬ Op.bytesLess (kk l (i - 1)) (kk l i) = true then some 3 else ((zi.f k (pg l i).f0).bind fun t => (if t = true then ((vX.f k (pg l i).f1).bind fun t => (if t = true then (if (pg l i).f2 = 0 then qM.l0 k l l (l.length : Int) ((i + 1 : Nat) : Int) else some 3) else some 3)) else some 3)) := fun k => by
 have e2 := zt i (by omega)
 by_cases h1 : 1 ≤ i
 ·have e1 := jP i h1 (by omega)
  by_cases hc : Op.bytesLess (kk l (i - 1)) (kk l i) = true
  ·rw [if_neg (fun hh => hh.2 hc)]
   simp only [qM.l0, e1, e2, Qe]
   ((repeat(first|refine Eq.trans (if_pos (by first|assumption|omega|trivial|exact decide_eq_true (by first|assumption|omega)|(simp only[decide_eq_true_eq];first|assumption|omega)|(simp;done)|(simp;omega))) ?_|refine Eq.trans (if_neg (by first|assumption|omega|(intro hh;have:=of_decide_eq_true hh;first|contradiction|omega)|(simp only[decide_eq_true_eq];first|assumption|omega)|(simp;done)|(simp;omega))) ?_));try rfl)
  ·rw [if_pos ⟨h1, hc⟩]
   simp only [qM.l0, e1, e2, Qe]
   ((repeat(first|refine Eq.trans (if_pos (by first|assumption|omega|trivial|exact decide_eq_true (by first|assumption|omega)|(simp only[decide_eq_true_eq];first|assumption|omega)|(simp;done)|(simp;omega))) ?_|refine Eq.trans (if_neg (by first|assumption|omega|(intro hh;have:=of_decide_eq_true hh;first|contradiction|omega)|(simp only[decide_eq_true_eq];first|assumption|omega)|(simp;done)|(simp;omega))) ?_));try rfl)
 ·rw [if_neg (fun hh => h1 hh.1)]
  simp only [qM.l0, e2, Qe]
  ((repeat(first|refine Eq.trans (if_pos (by first|assumption|omega|trivial|exact decide_eq_true (by first|assumption|omega)|(simp only[decide_eq_true_eq];first|assumption|omega)|(simp;done)|(simp;omega))) ?_|refine Eq.trans (if_neg (by first|assumption|omega|(intro hh;have:=of_decide_eq_true hh;first|contradiction|omega)|(simp only[decide_eq_true_eq];first|assumption|omega)|(simp;done)|(simp;omega))) ?_));try rfl)
theorem Zj (l : List vP) (hl : l.length ≤ 64) (hz : ∀ j, j < l.length → (pg l j).f0.size ≤ 200 ∧ (pg l j).f1.size ≤ 200) : ∀ (m i : Nat), l.length ≤ i + m → (∀ j, j < i → j < l.length → Zi (pg l j).f0 ∧ Zp (pg l j).f1 ∧ (pg l j).f2 = 0) → (∀ j, 1 ≤ j → j < i → j < l.length → Op.bytesLess (kk l (j - 1)) (kk l j) = true) →
 ∃ r : Int, Ev (fun k => qM.l0 k l l (l.length : Int) (i : Int)) r ∧ ((r = 0 ∧ Ok1 l) ∨ (r = 3 ∧ ¬ Ok1 l))
 | m, i, hm, h3, h4 => by
  by_cases h : i < l.length
  ·obtain ⟨m, rfl⟩ : ∃ m', m = m' + 1 := ⟨m - 1, by omega⟩
   obtain ⟨hz0, hz1⟩ := hz i h
   have hk := rKey_ev (pg l i).f0 (by omega)
   have hv := rVal_ev (pg l i).f1 (by omega)
   have st := kv_step l i h (by omega)
   by_cases hu : 1 ≤ i ∧ ¬ Op.bytesLess (kk l (i - 1)) (kk l i) = true
   ·refine ⟨3, Ev.step st (vm hu (Ev.now _)), .inr ⟨rfl, fun hg => hu.2 (hg.2.2 i hu.1 h)⟩⟩
   ·by_cases c1 : QH (pg l i).f0 = true
    ·by_cases c2 : jK (pg l i).f1 = true
     ·by_cases c3 : (pg l i).f2 = 0
      ·obtain ⟨b, hb, hs⟩ := Zj l hl hz m (i + 1) (by omega) (fun j hj hq => by
        by_cases e : j = i
        ·subst e; exact ⟨(Qr _ (by omega)).mpr c1, (Qv _ (by omega)).mpr c2, c3⟩
        ·exact h3 j (by omega) hq) (fun j hj hq hn => by
        by_cases e : j = i
        ·subst e; exact Classical.byContradiction fun hh => hu ⟨hj, hh⟩
        ·exact h4 j hj (by omega) hn)
       exact ⟨b, Ev.step st (qW hu (hk.bind (vm c1 (hv.bind (vm c2 (vm c3 hb)))))), hs⟩
      ·exact ⟨3, Ev.step st (qW hu (hk.bind (vm c1 (hv.bind (vm c2 (qW c3 (Ev.now _))))))), .inr ⟨rfl, fun hg => c3 (hg.1 i h).2.2⟩⟩
     ·exact ⟨3, Ev.step st (qW hu (hk.bind (vm c1 (hv.bind (qW c2 (Ev.now _)))))), .inr ⟨rfl, fun hg => c2 ((Qv _ (by omega)).mp (hg.1 i h).2.1)⟩⟩
    ·exact ⟨3, Ev.step st (qW hu (hk.bind (qW c1 (Ev.now _)))), .inr ⟨rfl, fun hg => c1 ((Qr _ (by omega)).mp (hg.1 i h).1)⟩⟩
  ·refine ⟨0, Ev.step (f := fun _ => some 0) (fun k => by simp only [qM.l0]; ((repeat(first|refine Eq.trans (if_pos (by first|assumption|omega|trivial|exact decide_eq_true (by first|assumption|omega)|(simp only[decide_eq_true_eq];first|assumption|omega)|(simp;done)|(simp;omega))) ?_|refine Eq.trans (if_neg (by first|assumption|omega|(intro hh;have:=of_decide_eq_true hh;first|contradiction|omega)|(simp only[decide_eq_true_eq];first|assumption|omega)|(simp;done)|(simp;omega))) ?_));try rfl)) (Ev.now _), .inl ⟨rfl, fun j hj => h3 j (by omega) hj, by omega, fun j ha hb => h4 j ha (by omega) hb⟩⟩
theorem kvChk_ev (l : List vP) (hl : l.length ≤ 1000) (hz : ∀ j, j < l.length → (pg l j).f0.size ≤ 200 ∧ (pg l j).f1.size ≤ 200) : ∃ r : Int, Ev (fun k => qM.f k l) r ∧ ((r = 0 ∧ Ok1 l) ∨ (r = 3 ∧ ¬ Ok1 l)) := by
 unfold qM.f
 by_cases h : l.length ≤ 64
 ·obtain ⟨r, hr, hs⟩ := Zj l h hz l.length 0 (by omega) (fun j hj _ => by omega) (fun j _ hj _ => by omega)
  exact ⟨r, qW (by omega) hr, hs⟩
 ·exact ⟨3, vm (by omega) (Ev.now _), .inr ⟨rfl, fun hg => h hg.2.1⟩⟩
end Go.Proofs.YtalpmbeddldfoaaDoor.PA
end
