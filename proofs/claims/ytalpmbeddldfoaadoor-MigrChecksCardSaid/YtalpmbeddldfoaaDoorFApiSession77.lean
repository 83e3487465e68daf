import Derived.Test.YtalpmbeddldfoaaDoorF0
import Derived.Test.YtalpmbeddldfoaaDoorHandD
namespace Go.Proofs.YtalpmbeddldfoaaDoor.PA
open Go.RowKit Go.Proofs.YtalpmbeddldfoaaDoor.Hand Go.Proofs.YtalpmbeddldfoaaDoorW.PrintWords Go.Proofs.YtalpmbeddldfoaaDoorW.PrintLast Go.Proofs.YtalpmbeddldfoaaDoorW.PrintMore
attribute [local go_sem] vW vV zc zb vG vF vU vT
attribute [local go_sem high] za zd ze
set_option linter.unusedVariables false
set_option linter.unusedSimpArgs false
attribute [local go_sem high] eqA74
def vw.l0 : Nat→List (zo)→List (zo)→Int→Int→Option (Bool)
 | 0,_,_,_,_=>none
 | k + 1,x0,x1,x12,Ab=>if Ab<x12 then(if 0≤Ab then(if Ab<(x0.length : Int) then(if Ab<(x1.length : Int) then(if(!(((qf x0 Ab).f0) == ((qf x1 Ab).f0)) || (!(((qf x0 Ab).f1) == ((qf x1 Ab).f1)) || ((!(((qf x0 Ab).f2.f0) == ((qf x1 Ab).f2.f0)) || (!(((qf x0 Ab).f2.f1) == ((qf x1 Ab).f2.f1)) || (!(((qf x0 Ab).f2.f2) == ((qf x1 Ab).f2.f2)) || (!(((qf x0 Ab).f2.f3) == ((qf x1 Ab).f2.f3)) || (!((((qf x0 Ab).f2.f4).toList) == (((qf x1 Ab).f2.f4).toList)) || (!(((qf x0 Ab).f2.f5) == ((qf x1 Ab).f2.f5)))))))))))=true then(some false) else(vw.l0 k x0 x1 x12 (wrap64 (Ab + 1)))) else(none)) else(none)) else(none)) else(some true)
def vw.f(k : Nat)(l0 : List (zo))(l1 : List (zo)) : Option (Bool):=if(l0.length : Int)=(l1.length : Int) then(vw.l0 k l0 l1 (l0.length : Int) 0) else(some false)
theorem vw.mono_l : ∀ k,(∀ y0 y1 y2 y3,qR (vw.l0 k y0 y1 y2 y3) (vw.l0 (k + 1) y0 y1 y2 y3))
 | 0=>fun _ _ _ _ r h=>by simp [vw.l0] at h
 | k + 1=>by
  have ih0:=vw.mono_l k
  ·intro y0 y1 y2 y3
   unfold vw.l0
   repeat' first
   | (with_reducible exact ih0 _ _ _ _)
   | (with_reducible exact qR.refl _)
   | (with_reducible exact qR.none _)
   | (with_reducible refine qR.ite ?_ ?_)
   | (with_reducible refine qR.bind ?_ (fun _=>?_))
   | exact ih0 _ _ _ _
   | exact qR.none _
   | refine qR.ite ?_ ?_
   | refine qR.bind ?_ (fun _=>?_)
theorem vw.mono : ∀ a0 a1 k,qR (vw.f k a0 a1) (vw.f (k + 1) a0 a1):=by
 intro a0 a1 k;have ih0:=vw.mono_l k;unfold vw.f
 repeat' first
  | (with_reducible exact ih0 _ _ _ _)
  | (with_reducible exact qR.refl _)
  | (with_reducible exact qR.none _)
  | (with_reducible refine qR.ite ?_ ?_)
  | (with_reducible refine qR.bind ?_ (fun _=>?_))
  | exact ih0 _ _ _ _
  | exact qR.none _
  | refine qR.ite ?_ ?_
  | refine qR.bind ?_ (fun _=>?_)
set_option maxHeartbeats 8000000 in
set_option maxRecDepth 100000 in
theorem vw.calls(k : Nat)(A0 : Option Addr)(c0 : Nat)(l0 : List (zo))(A1 : Option Addr)(c1 : Nat)(l1 : List (zo))(r : Bool)(w : World)(hr0 : Kd.C jW w A0 l0.length l0)(hc0 : l0.length≤c0)(hr1 : Kd.C jW w A1 l1.length l1)(hc1 : l1.length≤c1)(h : vw.f k l0 l1=some r) :
 Calls Tryd.prog 77 #[.slice A0 l0.length c0,.slice A1 l1.length c1] w fun e w'=>e = .returned (.bool r)∧qz w w':=by
 have hu74:=Tryd.underlying74;have HR0:=qb.mk hr0;have HC0:=qb.mk hc0;clear hr0 hc0;have HR1:=qb.mk hr1;have HC1:=qb.mk hc1;clear hr1 hc1;have H : (if(l0.length : Int)=(l1.length : Int) then(vw.l0 k l0 l1 (l0.length : Int) 0) else(some false))=some r:=h;clear h;by_cases c3 : (l0.length : Int)=(l1.length : Int)
 ·rw [if_pos c3] at H
  have c3b0 : ((l0.length : Int) == (l1.length : Int))=true:=beq_iff_eq.mpr c3;have c3b1 : ((l0.length : Int) != (l1.length : Int))=false:=bne_eq_false_iff_eq.mpr c3;have c3b2 : (l0.length == l1.length)=true:=by first|simpa using c3|(simp at c3 ⊢;omega)
  clear c3;have H':=qb.mk H;clear H;go_enter Tryd.func77,Tryd.ntmps77
  go_wp2
  repeat(go_quiet (fail);try go_wp2)
  go_loopg [13] k (fun kq v13 w'=>∃ (Aa : Int),v13 = .int .i64 Aa∧qb (vw.l0 kq l0 l1 (l0.length : Int) Aa=some r)∧qb (kq≤k)∧qz w w')
  case atStart=>exact⟨(0),(by first|rfl|(simp;done)|(simp [*];done)),H',⟨Nat.le_refl _⟩,by repeat(first|exact qz.refl _|apply qz.step)⟩
  case round=>
   clear H';try clear c1
   try clear p2
   try clear c3
   try clear c3b0
   try clear c3b1
   try clear c3b2
   obtain⟨Aa,rfl,HA,HK1,⟨m1,rfl⟩⟩:=hrel
   cases gk with
   | zero=>exact absurd HA.out (by simp [vw.l0])
   | succ k1=>
    have H:=HA.out;clear HA;simp only [vw.l0] at H;by_cases c4 : Aa<(l0.length : Int)
    ·rw [if_pos c4] at H
     have c4b0 : decide (Aa<(l0.length : Int))=true:=decide_eq_true c4;clear c4;by_cases c5 : 0≤Aa
     ·rw [if_pos c5] at H
      have c5b0 : decide (0≤Aa)=true:=decide_eq_true c5;clear c5;by_cases c6 : Aa<(l0.length : Int)
      ·rw [if_pos c6] at H
       have c6b0 : decide (Aa<(l0.length : Int))=true:=decide_eq_true c6;clear c6;by_cases c7 : Aa<(l1.length : Int)
       ·rw [if_pos c7] at H
        have c7b0 : decide (Aa<(l1.length : Int))=true:=decide_eq_true c7;clear c7;by_cases c8 : (!(((qf l0 Aa).f0) == ((qf l1 Aa).f0)) || (!(((qf l0 Aa).f1) == ((qf l1 Aa).f1)) || ((!(((qf l0 Aa).f2.f0) == ((qf l1 Aa).f2.f0)) || (!(((qf l0 Aa).f2.f1) == ((qf l1 Aa).f2.f1)) || (!(((qf l0 Aa).f2.f2) == ((qf l1 Aa).f2.f2)) || (!(((qf l0 Aa).f2.f3) == ((qf l1 Aa).f2.f3)) || (!((((qf l0 Aa).f2.f4).toList) == (((qf l1 Aa).f2.f4).toList)) || (!(((qf l0 Aa).f2.f5) == ((qf l1 Aa).f2.f5)))))))))))=true
        ·rw [if_pos c8] at H
         have c8b0 : (!(((qf l0 Aa).f0) == ((qf l1 Aa).f0)) || (!(((qf l0 Aa).f1) == ((qf l1 Aa).f1)) || ((!(((qf l0 Aa).f2.f0) == ((qf l1 Aa).f2.f0)) || (!(((qf l0 Aa).f2.f1) == ((qf l1 Aa).f2.f1)) || (!(((qf l0 Aa).f2.f2) == ((qf l1 Aa).f2.f2)) || (!(((qf l0 Aa).f2.f3) == ((qf l1 Aa).f2.f3)) || (!((((qf l0 Aa).f2.f4).toList) == (((qf l1 Aa).f2.f4).toList)) || (!(((qf l0 Aa).f2.f5) == ((qf l1 Aa).f2.f5)))))))))))=true:=c8;clear c8;obtain rfl:=Option.some.inj H;have p330 : 0≤(Aa : Int):=of_decide_eq_true (by first|(with_reducible assumption)|assumption);have q330 : Aa<(l0.length : Int):=of_decide_eq_true (by first|(with_reducible assumption)|assumption);obtain⟨ad330,e330,Ac,Ad,Ae,Af,Ag,Ah,Ai,Aj⟩:=zp HR0.out Aa p330 q330
         cases e330
         replace p330:=eq_true p330;replace q330:=eq_true q330;have p331 : 0≤(Aa : Int):=of_decide_eq_true (by first|(with_reducible assumption)|assumption);have q331 : Aa<(l1.length : Int):=of_decide_eq_true (by first|(with_reducible assumption)|assumption);obtain⟨ad331,e331,Ak,Am,Ao,Ap,Aq,Ar,As,At⟩:=zp HR1.out Aa p331 q331
         cases e331
         replace p331:=eq_true p331;replace q331:=eq_true q331;go_wp2
         repeat(go_quiet (fail);try go_wp2)
         go_ret
         exact⟨by first|rfl|(simp;done)|(simp [*];done),by repeat(first|exact qz.refl _|apply qz.step)⟩
        ·rw [if_neg c8] at H
         have c8b0 : (!(((qf l0 Aa).f0) == ((qf l1 Aa).f0)) || (!(((qf l0 Aa).f1) == ((qf l1 Aa).f1)) || ((!(((qf l0 Aa).f2.f0) == ((qf l1 Aa).f2.f0)) || (!(((qf l0 Aa).f2.f1) == ((qf l1 Aa).f2.f1)) || (!(((qf l0 Aa).f2.f2) == ((qf l1 Aa).f2.f2)) || (!(((qf l0 Aa).f2.f3) == ((qf l1 Aa).f2.f3)) || (!((((qf l0 Aa).f2.f4).toList) == (((qf l1 Aa).f2.f4).toList)) || (!(((qf l0 Aa).f2.f5) == ((qf l1 Aa).f2.f5)))))))))))=false:=by simpa using c8
         clear c8;have H':=qb.mk H;clear H;have p330 : 0≤(Aa : Int):=of_decide_eq_true (by first|(with_reducible assumption)|assumption);have q330 : Aa<(l0.length : Int):=of_decide_eq_true (by first|(with_reducible assumption)|assumption);obtain⟨ad330,e330,Ac,Ad,Ae,Af,Ag,Ah,Ai,Aj⟩:=zp HR0.out Aa p330 q330
         cases e330
         replace p330:=eq_true p330;replace q330:=eq_true q330;have p331 : 0≤(Aa : Int):=of_decide_eq_true (by first|(with_reducible assumption)|assumption);have q331 : Aa<(l1.length : Int):=of_decide_eq_true (by first|(with_reducible assumption)|assumption);obtain⟨ad331,e331,Ak,Am,Ao,Ap,Aq,Ar,As,At⟩:=zp HR1.out Aa p331 q331
         cases e331
         replace p331:=eq_true p331;replace q331:=eq_true q331;go_wp2
         repeat(go_quiet (fail);try go_wp2)
         go_roundg k1
         case measure=>have:=HK1.out;omega
         case rel=>exact⟨(wrap64 (Aa + 1)),(by first|rfl|(simp;done)|(simp [*];done)),H',⟨by have:=HK1.out;omega⟩,by repeat(first|exact qz.refl _|apply qz.step)⟩
       ·rw [if_neg c7] at H
        exact absurd H (by simp)
      ·rw [if_neg c6] at H
       exact absurd H (by simp)
     ·rw [if_neg c5] at H
      exact absurd H (by simp)
    ·rw [if_neg c4] at H
     have c4b0 : decide (Aa<(l0.length : Int))=false:=decide_eq_false c4;clear c4;obtain rfl:=Option.some.inj H;go_wp2
     repeat(go_quiet (fail);try go_wp2)
     go_ret
     exact⟨by first|rfl|(simp;done)|(simp [*];done),by repeat(first|exact qz.refl _|apply qz.step)⟩
 ·rw [if_neg c3] at H
  have c3b0 : ((l0.length : Int) == (l1.length : Int))=false:=beq_eq_false_iff_ne.mpr c3;have c3b1 : ((l0.length : Int) != (l1.length : Int))=true:=bne_iff_ne.mpr c3;have c3b2 : (l0.length == l1.length)=false:=by first|simpa using c3|(simp at c3 ⊢;omega)
  obtain rfl:=Option.some.inj H;go_enter Tryd.func77,Tryd.ntmps77
  go_wp2
  repeat(go_quiet (fail);try go_wp2)
  go_ret
  exact⟨by first|rfl|(simp;done)|(simp [*];done),by repeat(first|exact qz.refl _|apply qz.step)⟩
end Go.Proofs.YtalpmbeddldfoaaDoor.PA
