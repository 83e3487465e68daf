import Derived.Test.YtalpmbeddldfoaaDoorF0
import Derived.Test.YtalpmbeddldfoaaDoorFChangeoverref05Key
import Derived.Test.YtalpmbeddldfoaaDoorFChangeoverref05Val
import Derived.Test.YtalpmbeddldfoaaDoorFRunesVal
namespace Go.Proofs.YtalpmbeddldfoaaDoor.PA
open Go.RowKit Go.Proofs.YtalpmbeddldfoaaDoor.Hand Go.Proofs.YtalpmbeddldfoaaDoorW.PrintWords Go.Proofs.YtalpmbeddldfoaaDoorW.PrintLast Go.Proofs.YtalpmbeddldfoaaDoorW.PrintMore
attribute [local go_sem] vW vV zc zb vG vF vU vT
attribute [local go_sem high] za zd ze
set_option linter.unusedVariables false
set_option linter.unusedSimpArgs false
mutual
def qk.l0 : Nat→Int→List (vP)→Int→Option (Bool)
 | 0,_,_,_=>none
 | k + 1,x0,x1,x5=>if x5<(x1.length : Int) then(if 0≤x5 then((qy.f k ((qj x1 x5).f0)).bind fun As=>(if As=true then((qv.f k ((qj x1 x5).f1)).bind fun Ae=>(qk.j1 k x0 x1 x5 (!Ae))) else(qk.j1 k x0 x1 x5 true))) else(none)) else(if(x1.length : Int)≤64 then((qN.f k x1).bind fun At=>(some At)) else(some false))
def qk.j1 : Nat→Int→List (vP)→Int→Bool→Option (Bool)
 | 0,_,_,_,_=>none
 | k + 1,x0,x1,x5,x27=>if x27=true then(some false) else(if x0=1 then(if 0≤x5 then(if x5<(x1.length : Int) then(if((qj x1 x5).f2)=0 then(if x0=2 then(if((qj x1 x5).f2)<1 then(some false) else(if((qj x1 x5).f2) > 4294967296 then(some false) else(qk.l0 k x0 x1 (wrap64 (x5 + 1))))) else(qk.l0 k x0 x1 (wrap64 (x5 + 1)))) else(some false)) else(none)) else(none)) else(if x0=2 then(if 0≤x5 then(if x5<(x1.length : Int) then(if((qj x1 x5).f2)<1 then(some false) else(if((qj x1 x5).f2) > 4294967296 then(some false) else(qk.l0 k x0 x1 (wrap64 (x5 + 1))))) else(none)) else(none)) else(qk.l0 k x0 x1 (wrap64 (x5 + 1)))))
end
def qk.f(k : Nat)(a0 : Int)(l1 : List (vP)) : Option (Bool):=qk.l0 k a0 l1 0
theorem qk.mono_l : ∀ k,(∀ y0 y1 y2,qR (qk.l0 k y0 y1 y2) (qk.l0 (k + 1) y0 y1 y2))∧(∀ y0 y1 y2 y3,qR (qk.j1 k y0 y1 y2 y3) (qk.j1 (k + 1) y0 y1 y2 y3))
 | 0=>⟨fun _ _ _ r h=>by simp [qk.l0] at h,fun _ _ _ _ r h=>by simp [qk.j1] at h⟩
 | k + 1=>by
  obtain⟨ih0,ih1⟩:=qk.mono_l k;refine⟨?_,?_⟩
  ·intro y0 y1 y2
   unfold qk.l0
   repeat' first
   | (with_reducible exact ih0 _ _ _)
   | (with_reducible exact ih1 _ _ _ _)
   | (with_reducible exact qy.mono _ _)
   | (with_reducible exact qv.mono _ _)
   | (with_reducible exact qN.mono _ _)
   | (with_reducible exact qR.refl _)
   | (with_reducible exact qR.none _)
   | (with_reducible refine qR.ite ?_ ?_)
   | (with_reducible refine qR.bind ?_ (fun _=>?_))
   | exact ih0 _ _ _
   | exact ih1 _ _ _ _
   | exact qy.mono _ _
   | exact qv.mono _ _
   | exact qN.mono _ _
   | exact qR.none _
   | refine qR.ite ?_ ?_
   | refine qR.bind ?_ (fun _=>?_)
  ·intro y0 y1 y2 y3
   unfold qk.j1
   repeat' first
   | (with_reducible exact ih0 _ _ _)
   | (with_reducible exact ih1 _ _ _ _)
   | (with_reducible exact qy.mono _ _)
   | (with_reducible exact qv.mono _ _)
   | (with_reducible exact qN.mono _ _)
   | (with_reducible exact qR.refl _)
   | (with_reducible exact qR.none _)
   | (with_reducible refine qR.ite ?_ ?_)
   | (with_reducible refine qR.bind ?_ (fun _=>?_))
   | exact ih0 _ _ _
   | exact ih1 _ _ _ _
   | exact qy.mono _ _
   | exact qv.mono _ _
   | exact qN.mono _ _
   | exact qR.none _
   | refine qR.ite ?_ ?_
   | refine qR.bind ?_ (fun _=>?_)
theorem qk.mono : ∀ a0 a1 k,qR (qk.f k a0 a1) (qk.f (k + 1) a0 a1):=by
 intro a0 a1 k;obtain⟨ih0,ih1⟩:=qk.mono_l k;unfold qk.f
 repeat' first
  | (with_reducible exact ih0 _ _ _)
  | (with_reducible exact ih1 _ _ _ _)
  | (with_reducible exact qy.mono _ _)
  | (with_reducible exact qv.mono _ _)
  | (with_reducible exact qN.mono _ _)
  | (with_reducible exact qR.refl _)
  | (with_reducible exact qR.none _)
  | (with_reducible refine qR.ite ?_ ?_)
  | (with_reducible refine qR.bind ?_ (fun _=>?_))
  | exact ih0 _ _ _
  | exact ih1 _ _ _ _
  | exact qy.mono _ _
  | exact qv.mono _ _
  | exact qN.mono _ _
  | exact qR.none _
  | refine qR.ite ?_ ?_
  | refine qR.bind ?_ (fun _=>?_)
set_option maxHeartbeats 8000000 in
set_option maxRecDepth 100000 in
theorem qk.calls(k : Nat)(a0 : Int)(A1 : Option Addr)(c1 : Nat)(l1 : List (vP))(r : Bool)(w : World)(hr1 : Kd.C zM w A1 l1.length l1)(hc1 : l1.length≤c1)(h : qk.f k a0 l1=some r) :
 Calls Tryd.prog 48 #[.int .i64 a0,.slice A1 l1.length c1] w fun e w'=>e = .returned (.bool r)∧qz w w':=by
 have HR1:=qb.mk hr1;have HC1:=qb.mk hc1;clear hr1 hc1;have H : (qk.l0 k a0 l1 0)=some r:=h;clear h;have H':=qb.mk H;clear H;go_enter Tryd.func48,Tryd.ntmps48
 go_wp2
 go_loopg [5] k (fun kq v5 w'=>∃ (Aa : Int),v5 = .int .i64 Aa∧qb (qk.l0 kq a0 l1 Aa=some r)∧qb (kq≤k)∧qz w w')
 case atStart=>exact⟨(0),(by first|rfl|(simp;done)|(simp [*];done)),H',⟨Nat.le_refl _⟩,by repeat(first|exact qz.refl _|apply qz.step)⟩
 case round=>
  clear H';try clear c1
  try clear p2
  obtain⟨Aa,rfl,HA,Ar,⟨m1,rfl⟩⟩:=hrel
  cases gk with
  | zero=>exact absurd HA.out (by simp [qk.l0])
  | succ k1=>
   have H:=HA.out;clear HA;simp only [qk.l0] at H;by_cases c3 : Aa<(l1.length : Int)
   ·rw [if_pos c3] at H
    have c3b0 : decide (Aa<(l1.length : Int))=true:=decide_eq_true c3;clear c3;have HC4:=qb.mk H;clear H;go_upto_region 4 with (fail)
    go_cut [27] (fun v27 wc=>∃ (kq : Nat) (Af : Bool),v27 = .bool Af∧qb (qk.j1 kq a0 l1 Aa Af=some r)∧qb (kq≤k1)∧qz w wc)
    case first=>
     have H:=HC4.out;clear HC4;by_cases c5 : 0≤Aa
     ·rw [if_pos c5] at H
      have AD : decide (0≤Aa)=true:=decide_eq_true c5;clear c5
      (first|rw [AD]|(simp only [qm,qq];rw [AD])|skip)
      replace H:=Option.bind_eq_some_iff.mp H;obtain⟨As,A60,H⟩:=H;replace H : (if As=true then((qv.f k1 ((qj l1 Aa).f1)).bind fun Ae=>(qk.j1 k1 a0 l1 Aa (!Ae))) else(qk.j1 k1 a0 l1 Aa true))=some r:=H;have A6:=qb.mk A60;clear A60;by_cases c7 : As=true
      ·subst c7
       have H1 : ((qv.f k1 ((qj l1 Aa).f1)).bind fun Ae=>(qk.j1 k1 a0 l1 Aa (!Ae)))=some r:=by rw [if_pos rfl] at H;exact H
       clear H;have H:=H1;clear H1;replace H:=Option.bind_eq_some_iff.mp H;obtain⟨Ae,A80,H⟩:=H;replace H : (qk.j1 k1 a0 l1 Aa (!Ae))=some r:=H;have A8:=qb.mk A80;clear A80;have H':=qb.mk H;clear H;have p260 : 0≤(Aa : Int):=of_decide_eq_true (by first|(with_reducible assumption)|assumption);have q260 : Aa<(l1.length : Int):=of_decide_eq_true (by first|(with_reducible assumption)|assumption);obtain⟨ad260,e260,Ag,Ah,Ai⟩:=vY HR1.out Aa p260 q260
       cases e260
       replace p260:=eq_true p260;replace q260:=eq_true q260;go_wp2_with (first|((with_reducible refine vR (f:=22) rfl ?_);refine zx (some 17) rfl rfl Tryd.func22 (by kernel_rfl) rfl #[.string ((qj l1 Aa).f0)] rfl (by(try simp only [List.map_toArray,List.map_cons,List.map_nil]);first|done|rfl|(simp only [List.length_drop,List.length_take];rfl)) ?_;(with_reducible refine(qy.calls k1 ((qj l1 Aa).f0) true _ A6.out).mono ?_);rintro e w' ⟨rfl,⟨nd,rfl⟩⟩;refine⟨_,rfl,?_⟩;have p262 : 0≤(Aa : Int):=of_decide_eq_true (by first|(with_reducible assumption)|assumption);have q262 : Aa<(l1.length : Int):=of_decide_eq_true (by first|(with_reducible assumption)|assumption);obtain⟨ad262,e262,Au,Av,Aw⟩:=vY HR1.out Aa p262 q262;obtain rfl : ad260=ad262:=(by injection e262);replace p262:=eq_true p262;replace q262:=eq_true q262)|(go_at_call 24;(with_reducible refine(qv.calls k1 ((qj l1 Aa).f1) Ae _ A8.out).mono ?_);rintro e w' ⟨rfl,⟨nd,rfl⟩⟩))
       go_meet
       case rel=>exact⟨_,(!Ae),(by first|rfl|(simp;done)|(simp [*];done)),H',⟨by have:=Ar.out;first|omega|exact Nat.le_refl _⟩,by repeat(first|exact qz.refl _|apply qz.step)⟩
      ·replace c7:=Bool.eq_false_iff.mpr c7
       subst c7;have H1 : (qk.j1 k1 a0 l1 Aa true)=some r:=by rw [if_neg (show ¬ (false=true) by decide)] at H;exact H
       clear H;have H:=H1;clear H1;have H':=qb.mk H;clear H;have p260 : 0≤(Aa : Int):=of_decide_eq_true (by first|(with_reducible assumption)|assumption);have q260 : Aa<(l1.length : Int):=of_decide_eq_true (by first|(with_reducible assumption)|assumption);obtain⟨ad260,e260,Ag,Ah,Ai⟩:=vY HR1.out Aa p260 q260
       cases e260
       replace p260:=eq_true p260;replace q260:=eq_true q260;go_wp2_with (first|((with_reducible refine vR (f:=22) rfl ?_);refine zx (some 17) rfl rfl Tryd.func22 (by kernel_rfl) rfl #[.string ((qj l1 Aa).f0)] rfl (by(try simp only [List.map_toArray,List.map_cons,List.map_nil]);first|done|rfl|(simp only [List.length_drop,List.length_take];rfl)) ?_;(with_reducible refine(qy.calls k1 ((qj l1 Aa).f0) false _ A6.out).mono ?_);rintro e w' ⟨rfl,⟨nd,rfl⟩⟩;refine⟨_,rfl,?_⟩))
       go_meet
       case rel=>exact⟨_,(true),(by first|rfl|(simp;done)|(simp [*];done)),H',⟨by have:=Ar.out;first|omega|exact Nat.le_refl _⟩,by repeat(first|exact qz.refl _|apply qz.step)⟩
     ·rw [if_neg c5] at H
      exact absurd H (by simp)
    case rest=>
     clear HC4;try clear c1
     try clear c2
     try clear p2
     try clear q2
     try clear hx2
     try clear c3
     try clear c3b0
     try clear c4
     try clear c5
     try clear AD
     try clear c7
     try clear Ag
     try clear Ah
     try clear Ai
     try clear Au
     try clear Av
     try clear Aw
     try clear p2
     try clear p260
     try clear p262
     try clear q260
     try clear q262
     obtain⟨kq,Af,rfl,HA,HJ3,⟨mc3,rfl⟩⟩:=hcut
     cases kq with
     | zero=>exact absurd HA.out (by simp [qk.j1])
     | succ kj3=>
      have H:=HA.out;clear HA;simp only [qk.j1] at H;by_cases c9 : Af=true
      ·subst c9
       have H1 : (some false)=some r:=by rw [if_pos rfl] at H;exact H
       clear H;have H:=H1;clear H1;obtain rfl:=Option.some.inj H;go_wp2
       go_ret
       exact⟨by first|rfl|(simp;done)|(simp [*];done),by repeat(first|exact qz.refl _|apply qz.step)⟩
      ·replace c9:=Bool.eq_false_iff.mpr c9
       subst c9;have H1 : (if a0=1 then(if 0≤Aa then(if Aa<(l1.length : Int) then(if((qj l1 Aa).f2)=0 then(if a0=2 then(if((qj l1 Aa).f2)<1 then(some false) else(if((qj l1 Aa).f2) > 4294967296 then(some false) else(qk.l0 kj3 a0 l1 (wrap64 (Aa + 1))))) else(qk.l0 kj3 a0 l1 (wrap64 (Aa + 1)))) else(some false)) else(none)) else(none)) else(if a0=2 then(if 0≤Aa then(if Aa<(l1.length : Int) then(if((qj l1 Aa).f2)<1 then(some false) else(if((qj l1 Aa).f2) > 4294967296 then(some false) else(qk.l0 kj3 a0 l1 (wrap64 (Aa + 1))))) else(none)) else(none)) else(qk.l0 kj3 a0 l1 (wrap64 (Aa + 1)))))=some r:=by rw [if_neg (show ¬ (false=true) by decide)] at H;exact H
       clear H;have H:=H1;clear H1;by_cases AE : a0=1
       ·rw [if_pos AE] at H
        have c10b0 : (a0 == 1)=true:=beq_iff_eq.mpr AE;have c10b1 : (a0 != 1)=false:=bne_eq_false_iff_eq.mpr AE;clear AE;by_cases c11 : 0≤Aa
        ·rw [if_pos c11] at H
         have c11b0 : decide (0≤Aa)=true:=decide_eq_true c11;clear c11;by_cases c12 : Aa<(l1.length : Int)
         ·rw [if_pos c12] at H
          have c12b0 : decide (Aa<(l1.length : Int))=true:=decide_eq_true c12;clear c12;by_cases AF : ((qj l1 Aa).f2)=0
          ·rw [if_pos AF] at H
           have c13b0 : (((qj l1 Aa).f2) == 0)=true:=beq_iff_eq.mpr AF;have c13b1 : (((qj l1 Aa).f2) != 0)=false:=bne_eq_false_iff_eq.mpr AF;clear AF;by_cases AG : a0=2
           ·rw [if_pos AG] at H
            have c14b0 : (a0 == 2)=true:=beq_iff_eq.mpr AG;have c14b1 : (a0 != 2)=false:=bne_eq_false_iff_eq.mpr AG;clear AG;by_cases c15 : ((qj l1 Aa).f2)<1
            ·rw [if_pos c15] at H
             have c15b0 : decide (((qj l1 Aa).f2)<1)=true:=decide_eq_true c15;clear c15;obtain rfl:=Option.some.inj H;have p264 : 0≤(Aa : Int):=of_decide_eq_true (by first|(with_reducible assumption)|assumption);have q264 : Aa<(l1.length : Int):=of_decide_eq_true (by first|(with_reducible assumption)|assumption);obtain⟨ad264,e264,Ab,Ac,Ad⟩:=vY HR1.out Aa p264 q264
             cases e264
             replace p264:=eq_true p264;replace q264:=eq_true q264;have p265 : 0≤(Aa : Int):=of_decide_eq_true (by first|(with_reducible assumption)|assumption);have q265 : Aa<(l1.length : Int):=of_decide_eq_true (by first|(with_reducible assumption)|assumption);obtain⟨ad265,e265,Aj,Ak,Am⟩:=vY HR1.out Aa p265 q265;obtain rfl : ad264=ad265:=(by injection e265);replace p265:=eq_true p265;replace q265:=eq_true q265;go_wp2
             go_ret
             exact⟨by first|rfl|(simp;done)|(simp [*];done),by repeat(first|exact qz.refl _|apply qz.step)⟩
            ·rw [if_neg c15] at H
             have c15b0 : decide (((qj l1 Aa).f2)<1)=false:=decide_eq_false c15;clear c15;by_cases c16 : ((qj l1 Aa).f2) > 4294967296
             ·rw [if_pos c16] at H
              have c16b0 : decide (4294967296<((qj l1 Aa).f2))=true:=decide_eq_true c16;clear c16;obtain rfl:=Option.some.inj H;have p264 : 0≤(Aa : Int):=of_decide_eq_true (by first|(with_reducible assumption)|assumption);have q264 : Aa<(l1.length : Int):=of_decide_eq_true (by first|(with_reducible assumption)|assumption);obtain⟨ad264,e264,Ab,Ac,Ad⟩:=vY HR1.out Aa p264 q264
              cases e264
              replace p264:=eq_true p264;replace q264:=eq_true q264;have p265 : 0≤(Aa : Int):=of_decide_eq_true (by first|(with_reducible assumption)|assumption);have q265 : Aa<(l1.length : Int):=of_decide_eq_true (by first|(with_reducible assumption)|assumption);obtain⟨ad265,e265,Aj,Ak,Am⟩:=vY HR1.out Aa p265 q265;obtain rfl : ad264=ad265:=(by injection e265);replace p265:=eq_true p265;replace q265:=eq_true q265;have p266 : 0≤(Aa : Int):=of_decide_eq_true (by first|(with_reducible assumption)|assumption);have q266 : Aa<(l1.length : Int):=of_decide_eq_true (by first|(with_reducible assumption)|assumption);obtain⟨ad266,e266,Ax,Ay,Az⟩:=vY HR1.out Aa p266 q266;obtain rfl : ad264=ad266:=(by injection e266);replace p266:=eq_true p266;replace q266:=eq_true q266;go_wp2
              go_ret
              exact⟨by first|rfl|(simp;done)|(simp [*];done),by repeat(first|exact qz.refl _|apply qz.step)⟩
             ·rw [if_neg c16] at H
              have c16b0 : decide (4294967296<((qj l1 Aa).f2))=false:=decide_eq_false c16;clear c16;have H':=qb.mk H;clear H;have p264 : 0≤(Aa : Int):=of_decide_eq_true (by first|(with_reducible assumption)|assumption);have q264 : Aa<(l1.length : Int):=of_decide_eq_true (by first|(with_reducible assumption)|assumption);obtain⟨ad264,e264,Ab,Ac,Ad⟩:=vY HR1.out Aa p264 q264
              cases e264
              replace p264:=eq_true p264;replace q264:=eq_true q264;have p265 : 0≤(Aa : Int):=of_decide_eq_true (by first|(with_reducible assumption)|assumption);have q265 : Aa<(l1.length : Int):=of_decide_eq_true (by first|(with_reducible assumption)|assumption);obtain⟨ad265,e265,Aj,Ak,Am⟩:=vY HR1.out Aa p265 q265;obtain rfl : ad264=ad265:=(by injection e265);replace p265:=eq_true p265;replace q265:=eq_true q265;have p266 : 0≤(Aa : Int):=of_decide_eq_true (by first|(with_reducible assumption)|assumption);have q266 : Aa<(l1.length : Int):=of_decide_eq_true (by first|(with_reducible assumption)|assumption);obtain⟨ad266,e266,Ax,Ay,Az⟩:=vY HR1.out Aa p266 q266;obtain rfl : ad264=ad266:=(by injection e266);replace p266:=eq_true p266;replace q266:=eq_true q266;go_wp2
              go_roundg kj3
              case measure=>have:=Ar.out;have:=HJ3.out;omega
              case rel=>exact⟨(wrap64 (Aa + 1)),(by first|rfl|(simp;done)|(simp [*];done)),H',⟨by have:=Ar.out;have:=HJ3.out;omega⟩,by repeat(first|exact qz.refl _|apply qz.step)⟩
           ·rw [if_neg AG] at H
            have c14b0 : (a0 == 2)=false:=beq_eq_false_iff_ne.mpr AG;have c14b1 : (a0 != 2)=true:=bne_iff_ne.mpr AG;have H':=qb.mk H;clear H;have p264 : 0≤(Aa : Int):=of_decide_eq_true (by first|(with_reducible assumption)|assumption);have q264 : Aa<(l1.length : Int):=of_decide_eq_true (by first|(with_reducible assumption)|assumption);obtain⟨ad264,e264,Ab,Ac,Ad⟩:=vY HR1.out Aa p264 q264
            cases e264
            replace p264:=eq_true p264;replace q264:=eq_true q264;go_wp2
            go_roundg kj3
            case measure=>have:=Ar.out;have:=HJ3.out;omega
            case rel=>exact⟨(wrap64 (Aa + 1)),(by first|rfl|(simp;done)|(simp [*];done)),H',⟨by have:=Ar.out;have:=HJ3.out;omega⟩,by repeat(first|exact qz.refl _|apply qz.step)⟩
          ·rw [if_neg AF] at H
           have c13b0 : (((qj l1 Aa).f2) == 0)=false:=beq_eq_false_iff_ne.mpr AF;have c13b1 : (((qj l1 Aa).f2) != 0)=true:=bne_iff_ne.mpr AF;obtain rfl:=Option.some.inj H;have p264 : 0≤(Aa : Int):=of_decide_eq_true (by first|(with_reducible assumption)|assumption);have q264 : Aa<(l1.length : Int):=of_decide_eq_true (by first|(with_reducible assumption)|assumption);obtain⟨ad264,e264,Ab,Ac,Ad⟩:=vY HR1.out Aa p264 q264
           cases e264
           replace p264:=eq_true p264;replace q264:=eq_true q264;go_wp2
           go_ret
           exact⟨by first|rfl|(simp;done)|(simp [*];done),by repeat(first|exact qz.refl _|apply qz.step)⟩
         ·rw [if_neg c12] at H
          exact absurd H (by simp)
        ·rw [if_neg c11] at H
         exact absurd H (by simp)
       ·rw [if_neg AE] at H
        have c10b0 : (a0 == 1)=false:=beq_eq_false_iff_ne.mpr AE;have c10b1 : (a0 != 1)=true:=bne_iff_ne.mpr AE;by_cases AH : a0=2
        ·rw [if_pos AH] at H
         have c17b0 : (a0 == 2)=true:=beq_iff_eq.mpr AH;have c17b1 : (a0 != 2)=false:=bne_eq_false_iff_eq.mpr AH;clear AH;by_cases c18 : 0≤Aa
         ·rw [if_pos c18] at H
          have c18b0 : decide (0≤Aa)=true:=decide_eq_true c18;clear c18;by_cases c19 : Aa<(l1.length : Int)
          ·rw [if_pos c19] at H
           have c19b0 : decide (Aa<(l1.length : Int))=true:=decide_eq_true c19;clear c19;by_cases c20 : ((qj l1 Aa).f2)<1
           ·rw [if_pos c20] at H
            have c20b0 : decide (((qj l1 Aa).f2)<1)=true:=decide_eq_true c20;clear c20;obtain rfl:=Option.some.inj H;have p267 : 0≤(Aa : Int):=of_decide_eq_true (by first|(with_reducible assumption)|assumption);have q267 : Aa<(l1.length : Int):=of_decide_eq_true (by first|(with_reducible assumption)|assumption);obtain⟨ad267,e267,Ao,Ap,Aq⟩:=vY HR1.out Aa p267 q267
            cases e267
            replace p267:=eq_true p267;replace q267:=eq_true q267;go_wp2
            go_ret
            exact⟨by first|rfl|(simp;done)|(simp [*];done),by repeat(first|exact qz.refl _|apply qz.step)⟩
           ·rw [if_neg c20] at H
            have c20b0 : decide (((qj l1 Aa).f2)<1)=false:=decide_eq_false c20;clear c20;by_cases c21 : ((qj l1 Aa).f2) > 4294967296
            ·rw [if_pos c21] at H
             have c21b0 : decide (4294967296<((qj l1 Aa).f2))=true:=decide_eq_true c21;clear c21;obtain rfl:=Option.some.inj H;have p267 : 0≤(Aa : Int):=of_decide_eq_true (by first|(with_reducible assumption)|assumption);have q267 : Aa<(l1.length : Int):=of_decide_eq_true (by first|(with_reducible assumption)|assumption);obtain⟨ad267,e267,Ao,Ap,Aq⟩:=vY HR1.out Aa p267 q267
             cases e267
             replace p267:=eq_true p267;replace q267:=eq_true q267;have p268 : 0≤(Aa : Int):=of_decide_eq_true (by first|(with_reducible assumption)|assumption);have q268 : Aa<(l1.length : Int):=of_decide_eq_true (by first|(with_reducible assumption)|assumption);obtain⟨ad268,e268,AA,AB,AC⟩:=vY HR1.out Aa p268 q268;obtain rfl : ad267=ad268:=(by injection e268);replace p268:=eq_true p268;replace q268:=eq_true q268;go_wp2
             go_ret
             exact⟨by first|rfl|(simp;done)|(simp [*];done),by repeat(first|exact qz.refl _|apply qz.step)⟩
            ·rw [if_neg c21] at H
             have c21b0 : decide (4294967296<((qj l1 Aa).f2))=false:=decide_eq_false c21;clear c21;have H':=qb.mk H;clear H;have p267 : 0≤(Aa : Int):=of_decide_eq_true (by first|(with_reducible assumption)|assumption);have q267 : Aa<(l1.length : Int):=of_decide_eq_true (by first|(with_reducible assumption)|assumption);obtain⟨ad267,e267,Ao,Ap,Aq⟩:=vY HR1.out Aa p267 q267
             cases e267
             replace p267:=eq_true p267;replace q267:=eq_true q267;have p268 : 0≤(Aa : Int):=of_decide_eq_true (by first|(with_reducible assumption)|assumption);have q268 : Aa<(l1.length : Int):=of_decide_eq_true (by first|(with_reducible assumption)|assumption);obtain⟨ad268,e268,AA,AB,AC⟩:=vY HR1.out Aa p268 q268;obtain rfl : ad267=ad268:=(by injection e268);replace p268:=eq_true p268;replace q268:=eq_true q268;go_wp2
             go_roundg kj3
             case measure=>have:=Ar.out;have:=HJ3.out;omega
             case rel=>exact⟨(wrap64 (Aa + 1)),(by first|rfl|(simp;done)|(simp [*];done)),H',⟨by have:=Ar.out;have:=HJ3.out;omega⟩,by repeat(first|exact qz.refl _|apply qz.step)⟩
          ·rw [if_neg c19] at H
           exact absurd H (by simp)
         ·rw [if_neg c18] at H
          exact absurd H (by simp)
        ·rw [if_neg AH] at H
         have c17b0 : (a0 == 2)=false:=beq_eq_false_iff_ne.mpr AH;have c17b1 : (a0 != 2)=true:=bne_iff_ne.mpr AH;have H':=qb.mk H;clear H;go_wp2
         go_roundg kj3
         case measure=>have:=Ar.out;have:=HJ3.out;omega
         case rel=>exact⟨(wrap64 (Aa + 1)),(by first|rfl|(simp;done)|(simp [*];done)),H',⟨by have:=Ar.out;have:=HJ3.out;omega⟩,by repeat(first|exact qz.refl _|apply qz.step)⟩
   ·rw [if_neg c3] at H
    have c3b0 : decide (Aa<(l1.length : Int))=false:=decide_eq_false c3;clear c3;by_cases c22 : (l1.length : Int)≤64
    ·rw [if_pos c22] at H
     have c22b0 : decide ((l1.length : Int)≤64)=true:=decide_eq_true c22;have c22b1 : decide (l1.length≤64)=true:=decide_eq_true (by omega);clear c22;replace H:=Option.bind_eq_some_iff.mp H;obtain⟨At,A230,H⟩:=H;replace H : (some At)=some r:=H;have A23:=qb.mk A230;clear A230;obtain rfl:=Option.some.inj H;go_wp2_with (first|(go_at_call 50;(with_reducible refine(qN.calls k1 _ _ l1 At _ ?side1 ?side2 A23.out).mono ?_);(case side1=>repeat(first|exact HR1.out|(with_reducible refine Kd.qS ?_ _)|(with_reducible refine Kd.qU ?_ _)|(with_reducible refine Kd.vq ?_)));(case side2=>exact HC1.out);rintro e w' ⟨rfl,⟨nd,rfl⟩⟩))
     go_ret
     exact⟨by first|rfl|(simp;done)|(simp [*];done),by repeat(first|exact qz.refl _|apply qz.step)⟩
    ·rw [if_neg c22] at H
     have c22b0 : decide ((l1.length : Int)≤64)=false:=decide_eq_false c22;have c22b1 : decide (l1.length≤64)=false:=decide_eq_false (by omega);clear c22;obtain rfl:=Option.some.inj H;go_wp2
     go_ret
     exact⟨by first|rfl|(simp;done)|(simp [*];done),by repeat(first|exact qz.refl _|apply qz.step)⟩
end Go.Proofs.YtalpmbeddldfoaaDoor.PA
