import Derived.Test.YtalpmbeddldfoaaDoorF0
import Derived.Test.YtalpmbeddldfoaaDoorHandD
section
namespace Go.Proofs.YtalpmbeddldfoaaDoor.PA
open Go.RowKit Go.Proofs.YtalpmbeddldfoaaDoor.Hand Go.Proofs.YtalpmbeddldfoaaDoorW.PrintWords Go.Proofs.YtalpmbeddldfoaaDoorW.PrintLast Go.Proofs.YtalpmbeddldfoaaDoorW.PrintMore
attribute [local go_sem] vW vV zc zb vG vF vU vT
attribute [local go_sem high] za zd ze
set_option linter.unusedVariables false
set_option linter.unusedSimpArgs false
mutual
def qE.l0 : Nat→List (zo)→Int→Option (Bool)
 | 0,_,_=>none
 | k + 1,x0,x3=>if x3<(x0.length : Int) then(qE.j1 k x0 x3 (decide (x3<40))) else(qE.j1 k x0 x3 false)
def qE.j1 : Nat→List (zo)→Int→Bool→Option (Bool)
 | 0,_,_,_=>none
 | k + 1,x0,x3,x11=>if x11=true then(if 0≤x3 then(if x3<(x0.length : Int) then(if(((qf x0 x3).f2.f4).size : Int) > 200 then(some true) else(qE.l0 k x0 (wrap64 (x3 + 1)))) else(none)) else(none)) else(some (decide ((x0.length : Int) > 40)))
end
def qE.f(k : Nat)(l0 : List (zo)) : Option (Bool):=qE.l0 k l0 0
theorem qE.mono_l : ∀ k,(∀ y0 y1,qR (qE.l0 k y0 y1) (qE.l0 (k + 1) y0 y1))∧(∀ y0 y1 y2,qR (qE.j1 k y0 y1 y2) (qE.j1 (k + 1) y0 y1 y2))
 | 0=>⟨fun _ _ r h=>by simp [qE.l0] at h,fun _ _ _ r h=>by simp [qE.j1] at h⟩
 | k + 1=>by
  obtain⟨ih0,ih1⟩:=qE.mono_l k;refine⟨?_,?_⟩
  ·intro y0 y1
   unfold qE.l0
   repeat' first
   | (with_reducible exact ih0 _ _)
   | (with_reducible exact ih1 _ _ _)
   | (with_reducible exact qR.refl _)
   | (with_reducible exact qR.none _)
   | (with_reducible refine qR.ite ?_ ?_)
   | (with_reducible refine qR.bind ?_ (fun _=>?_))
   | exact ih0 _ _
   | exact ih1 _ _ _
   | exact qR.none _
   | refine qR.ite ?_ ?_
   | refine qR.bind ?_ (fun _=>?_)
  ·intro y0 y1 y2
   unfold qE.j1
   repeat' first
   | (with_reducible exact ih0 _ _)
   | (with_reducible exact ih1 _ _ _)
   | (with_reducible exact qR.refl _)
   | (with_reducible exact qR.none _)
   | (with_reducible refine qR.ite ?_ ?_)
   | (with_reducible refine qR.bind ?_ (fun _=>?_))
   | exact ih0 _ _
   | exact ih1 _ _ _
   | exact qR.none _
   | refine qR.ite ?_ ?_
   | refine qR.bind ?_ (fun _=>?_)
theorem qE.mono : ∀ a0 k,qR (qE.f k a0) (qE.f (k + 1) a0):=by
 intro a0 k;obtain⟨ih0,ih1⟩:=qE.mono_l k;unfold qE.f
 repeat' first
  | (with_reducible exact ih0 _ _)
  | (with_reducible exact ih1 _ _ _)
  | (with_reducible exact qR.refl _)
  | (with_reducible exact qR.none _)
  | (with_reducible refine qR.ite ?_ ?_)
  | (with_reducible refine qR.bind ?_ (fun _=>?_))
  | exact ih0 _ _
  | exact ih1 _ _ _
  | exact qR.none _
  | refine qR.ite ?_ ?_
  | refine qR.bind ?_ (fun _=>?_)
set_option maxHeartbeats 8000000 in
set_option maxRecDepth 100000 in
theorem qE.calls(k : Nat)(A0 : Option Addr)(c0 : Nat)(l0 : List (zo))(r : Bool)(w : World)(hr0 : Kd.C jW w A0 l0.length l0)(hc0 : l0.length≤c0)(h : qE.f k l0=some r) :
 Calls Tryd.prog 42 #[.slice A0 l0.length c0] w fun e w'=>e = .returned (.bool r)∧qz w w':=by
 have HR0:=qb.mk hr0;have HC0:=qb.mk hc0;clear hr0 hc0;have H : (qE.l0 k l0 0)=some r:=h;clear h;have H':=qb.mk H;clear H;go_enter Tryd.func42,Tryd.ntmps42
 go_wp2
 go_loopg [3] k (fun kq v3 w'=>∃ (Aa : Int),v3 = .int .i64 Aa∧qb (qE.l0 kq l0 Aa=some r)∧qb (kq≤k)∧qz w w')
 case atStart=>exact⟨(0),(by first|rfl|(simp;done)|(simp [*];done)),H',⟨Nat.le_refl _⟩,by repeat(first|exact qz.refl _|apply qz.step)⟩
 case round=>
  clear H';obtain⟨Aa,rfl,HA,HK1,⟨m1,rfl⟩⟩:=hrel
  cases gk with
  | zero=>exact absurd HA.out (by simp [qE.l0])
  | succ k1=>
   have H:=HA.out;clear HA;simp only [qE.l0] at H;have HC2:=qb.mk H;clear H;go_upto_region 2 with (fail)
   go_cut [11] (fun v11 wc=>∃ (kq : Nat) (Ab : Bool),v11 = .bool Ab∧qb (qE.j1 kq l0 Aa Ab=some r)∧qb (kq≤k1)∧qz w wc)
   case first=>
    have H:=HC2.out;clear HC2;by_cases c3 : Aa<(l0.length : Int)
    ·rw [if_pos c3] at H
     have Ac : decide (Aa<(l0.length : Int))=true:=decide_eq_true c3;clear c3
     (first|rw [Ac]|(simp only [qm,qq];rw [Ac])|skip)
     have H':=qb.mk H;clear H;go_wp2
     go_meet
     case rel=>exact⟨_,(decide (Aa<40)),(by first|rfl|(simp;done)|(simp [*];done)),H',⟨by have:=HK1.out;first|omega|exact Nat.le_refl _⟩,by repeat(first|exact qz.refl _|apply qz.step)⟩
    ·rw [if_neg c3] at H
     have Ac : decide (Aa<(l0.length : Int))=false:=decide_eq_false c3;clear c3
     (first|rw [Ac]|(simp only [qm,qq];rw [Ac])|skip)
     have H':=qb.mk H;clear H;go_wp2
     go_meet
     case rel=>exact⟨_,(false),(by first|rfl|(simp;done)|(simp [*];done)),H',⟨by have:=HK1.out;first|omega|exact Nat.le_refl _⟩,by repeat(first|exact qz.refl _|apply qz.step)⟩
   case rest=>
    clear HC2;try clear p2
    try clear c3
    try clear Ac
    obtain⟨kq,Ab,rfl,HA,HJ1,⟨mc1,rfl⟩⟩:=hcut
    cases kq with
    | zero=>exact absurd HA.out (by simp [qE.j1])
    | succ kj1=>
     have H:=HA.out;clear HA;simp only [qE.j1] at H;by_cases c4 : Ab=true
     ·subst c4
      have H1 : (if 0≤Aa then(if Aa<(l0.length : Int) then(if(((qf l0 Aa).f2.f4).size : Int) > 200 then(some true) else(qE.l0 kj1 l0 (wrap64 (Aa + 1)))) else(none)) else(none))=some r:=by rw [if_pos rfl] at H;exact H
      clear H;have H:=H1;clear H1;by_cases c5 : 0≤Aa
      ·rw [if_pos c5] at H
       have c5b0 : decide (0≤Aa)=true:=decide_eq_true c5;clear c5;by_cases c6 : Aa<(l0.length : Int)
       ·rw [if_pos c6] at H
        have c6b0 : decide (Aa<(l0.length : Int))=true:=decide_eq_true c6;clear c6;by_cases c7 : (((qf l0 Aa).f2.f4).size : Int) > 200
        ·rw [if_pos c7] at H
         have c7b0 : decide (200<(((qf l0 Aa).f2.f4).size : Int))=true:=decide_eq_true c7;have c7b1 : decide (200<((qf l0 Aa).f2.f4).size)=true:=decide_eq_true (by omega);clear c7;obtain rfl:=Option.some.inj H;have p165 : 0≤(Aa : Int):=of_decide_eq_true (by first|(with_reducible assumption)|assumption);have q165 : Aa<(l0.length : Int):=of_decide_eq_true (by first|(with_reducible assumption)|assumption);obtain⟨ad165,e165,Ad,Ae,Af,Ag,Ah,Ai,Aj,Ak⟩:=zp HR0.out Aa p165 q165
         cases e165
         replace p165:=eq_true p165;replace q165:=eq_true q165;go_wp2
         go_ret
         exact⟨by first|rfl|(simp;done)|(simp [*];done),by repeat(first|exact qz.refl _|apply qz.step)⟩
        ·rw [if_neg c7] at H
         have c7b0 : decide (200<(((qf l0 Aa).f2.f4).size : Int))=false:=decide_eq_false c7;have c7b1 : decide (200<((qf l0 Aa).f2.f4).size)=false:=decide_eq_false (by omega);clear c7;have H':=qb.mk H;clear H;have p165 : 0≤(Aa : Int):=of_decide_eq_true (by first|(with_reducible assumption)|assumption);have q165 : Aa<(l0.length : Int):=of_decide_eq_true (by first|(with_reducible assumption)|assumption);obtain⟨ad165,e165,Ad,Ae,Af,Ag,Ah,Ai,Aj,Ak⟩:=zp HR0.out Aa p165 q165
         cases e165
         replace p165:=eq_true p165;replace q165:=eq_true q165;go_wp2
         go_roundg kj1
         case measure=>have:=HK1.out;have:=HJ1.out;omega
         case rel=>exact⟨(wrap64 (Aa + 1)),(by first|rfl|(simp;done)|(simp [*];done)),H',⟨by have:=HK1.out;have:=HJ1.out;omega⟩,by repeat(first|exact qz.refl _|apply qz.step)⟩
       ·rw [if_neg c6] at H
        exact absurd H (by simp)
      ·rw [if_neg c5] at H
       exact absurd H (by simp)
     ·replace c4:=Bool.eq_false_iff.mpr c4
      subst c4;have H1 : (some (decide ((l0.length : Int) > 40)))=some r:=by rw [if_neg (show ¬ (false=true) by decide)] at H;exact H
      clear H;have H:=H1;clear H1;obtain rfl:=Option.some.inj H;go_wp2
      go_ret
      exact⟨by first|rfl|(simp;done)|(simp [*];done),by repeat(first|exact qz.refl _|apply qz.step)⟩
end Go.Proofs.YtalpmbeddldfoaaDoor.PA
end
section
namespace Go.Proofs.YtalpmbeddldfoaaDoor.PA
open Go.RowKit Go.Proofs.YtalpmbeddldfoaaDoor.Hand Go.Proofs.YtalpmbeddldfoaaDoorW.PrintWords Go.Proofs.YtalpmbeddldfoaaDoorW.PrintLast Go.Proofs.YtalpmbeddldfoaaDoorW.PrintMore
attribute [local go_sem] vW vV zc zb vG vF vU vT
attribute [local go_sem high] za zd ze
set_option linter.unusedVariables false
set_option linter.unusedSimpArgs false
attribute [local go_sem high] eqA50
def vL.l0 : Nat→List (vP)→List (vP)→Int→Int→Option (Bool)
 | 0,_,_,_,_=>none
 | k + 1,x0,x1,x12,Ab=>if Ab<x12 then(if 0≤Ab then(if Ab<(x0.length : Int) then(if Ab<(x1.length : Int) then(if(!((((qj x0 Ab).f0).toList) == (((qj x1 Ab).f0).toList)) || (!((((qj x0 Ab).f1).toList) == (((qj x1 Ab).f1).toList)) || (!(((qj x0 Ab).f2) == ((qj x1 Ab).f2)))))=true then(some false) else(vL.l0 k x0 x1 x12 (wrap64 (Ab + 1)))) else(none)) else(none)) else(none)) else(some true)
def vL.f(k : Nat)(l0 : List (vP))(l1 : List (vP)) : Option (Bool):=if(l0.length : Int)=(l1.length : Int) then(vL.l0 k l0 l1 (l0.length : Int) 0) else(some false)
theorem vL.mono_l : ∀ k,(∀ y0 y1 y2 y3,qR (vL.l0 k y0 y1 y2 y3) (vL.l0 (k + 1) y0 y1 y2 y3))
 | 0=>fun _ _ _ _ r h=>by simp [vL.l0] at h
 | k + 1=>by
  have ih0:=vL.mono_l k
  ·intro y0 y1 y2 y3
   unfold vL.l0
   repeat' first
   | (with_reducible exact ih0 _ _ _ _)
   | (with_reducible exact qR.refl _)
   | (with_reducible exact qR.none _)
   | (with_reducible refine qR.ite ?_ ?_)
   | (with_reducible refine qR.bind ?_ (fun _=>?_))
   | exact ih0 _ _ _ _
   | exact qR.none _
   | refine qR.ite ?_ ?_
   | refine qR.bind ?_ (fun _=>?_)
theorem vL.mono : ∀ a0 a1 k,qR (vL.f k a0 a1) (vL.f (k + 1) a0 a1):=by
 intro a0 a1 k;have ih0:=vL.mono_l k;unfold vL.f
 repeat' first
  | (with_reducible exact ih0 _ _ _ _)
  | (with_reducible exact qR.refl _)
  | (with_reducible exact qR.none _)
  | (with_reducible refine qR.ite ?_ ?_)
  | (with_reducible refine qR.bind ?_ (fun _=>?_))
  | exact ih0 _ _ _ _
  | exact qR.none _
  | refine qR.ite ?_ ?_
  | refine qR.bind ?_ (fun _=>?_)
set_option maxHeartbeats 8000000 in
set_option maxRecDepth 100000 in
theorem vL.calls(k : Nat)(A0 : Option Addr)(c0 : Nat)(l0 : List (vP))(A1 : Option Addr)(c1 : Nat)(l1 : List (vP))(r : Bool)(w : World)(hr0 : Kd.C zM w A0 l0.length l0)(hc0 : l0.length≤c0)(hr1 : Kd.C zM w A1 l1.length l1)(hc1 : l1.length≤c1)(h : vL.f k l0 l1=some r) :
 Calls Tryd.prog 76 #[.slice A0 l0.length c0,.slice A1 l1.length c1] w fun e w'=>e = .returned (.bool r)∧qz w w':=by
 have hu50:=Tryd.underlying50;have HR0:=qb.mk hr0;have HC0:=qb.mk hc0;clear hr0 hc0;have HR1:=qb.mk hr1;have HC1:=qb.mk hc1;clear hr1 hc1;have H : (if(l0.length : Int)=(l1.length : Int) then(vL.l0 k l0 l1 (l0.length : Int) 0) else(some false))=some r:=h;clear h;by_cases c3 : (l0.length : Int)=(l1.length : Int)
 ·rw [if_pos c3] at H
  have c3b0 : ((l0.length : Int) == (l1.length : Int))=true:=beq_iff_eq.mpr c3;have c3b1 : ((l0.length : Int) != (l1.length : Int))=false:=bne_eq_false_iff_eq.mpr c3;have c3b2 : (l0.length == l1.length)=true:=by first|simpa using c3|(simp at c3 ⊢;omega)
  clear c3;have H':=qb.mk H;clear H;go_enter Tryd.func76,Tryd.ntmps76
  go_wp2
  repeat(go_quiet (fail);try go_wp2)
  go_loopg [13] k (fun kq v13 w'=>∃ (Aa : Int),v13 = .int .i64 Aa∧qb (vL.l0 kq l0 l1 (l0.length : Int) Aa=some r)∧qb (kq≤k)∧qz w w')
  case atStart=>exact⟨(0),(by first|rfl|(simp;done)|(simp [*];done)),H',⟨Nat.le_refl _⟩,by repeat(first|exact qz.refl _|apply qz.step)⟩
  case round=>
   clear H';try clear c1
   try clear p2
   try clear c3
   try clear c3b0
   try clear c3b1
   try clear c3b2
   obtain⟨Aa,rfl,HA,HK1,⟨m1,rfl⟩⟩:=hrel
   cases gk with
   | zero=>exact absurd HA.out (by simp [vL.l0])
   | succ k1=>
    have H:=HA.out;clear HA;simp only [vL.l0] at H;by_cases c4 : Aa<(l0.length : Int)
    ·rw [if_pos c4] at H
     have c4b0 : decide (Aa<(l0.length : Int))=true:=decide_eq_true c4;clear c4;by_cases c5 : 0≤Aa
     ·rw [if_pos c5] at H
      have c5b0 : decide (0≤Aa)=true:=decide_eq_true c5;clear c5;by_cases c6 : Aa<(l0.length : Int)
      ·rw [if_pos c6] at H
       have c6b0 : decide (Aa<(l0.length : Int))=true:=decide_eq_true c6;clear c6;by_cases c7 : Aa<(l1.length : Int)
       ·rw [if_pos c7] at H
        have c7b0 : decide (Aa<(l1.length : Int))=true:=decide_eq_true c7;clear c7;by_cases c8 : (!((((qj l0 Aa).f0).toList) == (((qj l1 Aa).f0).toList)) || (!((((qj l0 Aa).f1).toList) == (((qj l1 Aa).f1).toList)) || (!(((qj l0 Aa).f2) == ((qj l1 Aa).f2)))))=true
        ·rw [if_pos c8] at H
         have c8b0 : (!((((qj l0 Aa).f0).toList) == (((qj l1 Aa).f0).toList)) || (!((((qj l0 Aa).f1).toList) == (((qj l1 Aa).f1).toList)) || (!(((qj l0 Aa).f2) == ((qj l1 Aa).f2)))))=true:=c8;clear c8;obtain rfl:=Option.some.inj H;have p328 : 0≤(Aa : Int):=of_decide_eq_true (by first|(with_reducible assumption)|assumption);have q328 : Aa<(l0.length : Int):=of_decide_eq_true (by first|(with_reducible assumption)|assumption);obtain⟨ad328,e328,Ac,Ad,Ae⟩:=vY HR0.out Aa p328 q328
         cases e328
         replace p328:=eq_true p328;replace q328:=eq_true q328;have p329 : 0≤(Aa : Int):=of_decide_eq_true (by first|(with_reducible assumption)|assumption);have q329 : Aa<(l1.length : Int):=of_decide_eq_true (by first|(with_reducible assumption)|assumption);obtain⟨ad329,e329,Af,Ag,Ah⟩:=vY HR1.out Aa p329 q329
         cases e329
         replace p329:=eq_true p329;replace q329:=eq_true q329;go_wp2
         repeat(go_quiet (fail);try go_wp2)
         go_ret
         exact⟨by first|rfl|(simp;done)|(simp [*];done),by repeat(first|exact qz.refl _|apply qz.step)⟩
        ·rw [if_neg c8] at H
         have c8b0 : (!((((qj l0 Aa).f0).toList) == (((qj l1 Aa).f0).toList)) || (!((((qj l0 Aa).f1).toList) == (((qj l1 Aa).f1).toList)) || (!(((qj l0 Aa).f2) == ((qj l1 Aa).f2)))))=false:=by simpa using c8
         clear c8;have H':=qb.mk H;clear H;have p328 : 0≤(Aa : Int):=of_decide_eq_true (by first|(with_reducible assumption)|assumption);have q328 : Aa<(l0.length : Int):=of_decide_eq_true (by first|(with_reducible assumption)|assumption);obtain⟨ad328,e328,Ac,Ad,Ae⟩:=vY HR0.out Aa p328 q328
         cases e328
         replace p328:=eq_true p328;replace q328:=eq_true q328;have p329 : 0≤(Aa : Int):=of_decide_eq_true (by first|(with_reducible assumption)|assumption);have q329 : Aa<(l1.length : Int):=of_decide_eq_true (by first|(with_reducible assumption)|assumption);obtain⟨ad329,e329,Af,Ag,Ah⟩:=vY HR1.out Aa p329 q329
         cases e329
         replace p329:=eq_true p329;replace q329:=eq_true q329;go_wp2
         repeat(go_quiet (fail);try go_wp2)
         go_roundg k1
         case measure=>have:=HK1.out;omega
         case rel=>exact⟨(wrap64 (Aa + 1)),(by first|rfl|(simp;done)|(simp [*];done)),H',⟨by have:=HK1.out;omega⟩,by repeat(first|exact qz.refl _|apply qz.step)⟩
       ·rw [if_neg c7] at H
        exact absurd H (by simp)
      ·rw [if_neg c6] at H
       exact absurd H (by simp)
     ·rw [if_neg c5] at H
      exact absurd H (by simp)
    ·rw [if_neg c4] at H
     have c4b0 : decide (Aa<(l0.length : Int))=false:=decide_eq_false c4;clear c4;obtain rfl:=Option.some.inj H;go_wp2
     repeat(go_quiet (fail);try go_wp2)
     go_ret
     exact⟨by first|rfl|(simp;done)|(simp [*];done),by repeat(first|exact qz.refl _|apply qz.step)⟩
 ·rw [if_neg c3] at H
  have c3b0 : ((l0.length : Int) == (l1.length : Int))=false:=beq_eq_false_iff_ne.mpr c3;have c3b1 : ((l0.length : Int) != (l1.length : Int))=true:=bne_iff_ne.mpr c3;have c3b2 : (l0.length == l1.length)=false:=by first|simpa using c3|(simp at c3 ⊢;omega)
  obtain rfl:=Option.some.inj H;go_enter Tryd.func76,Tryd.ntmps76
  go_wp2
  repeat(go_quiet (fail);try go_wp2)
  go_ret
  exact⟨by first|rfl|(simp;done)|(simp [*];done),by repeat(first|exact qz.refl _|apply qz.step)⟩
end Go.Proofs.YtalpmbeddldfoaaDoor.PA
end
