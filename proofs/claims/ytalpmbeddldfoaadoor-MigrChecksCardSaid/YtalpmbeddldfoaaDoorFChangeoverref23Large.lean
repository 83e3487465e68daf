import Derived.Test.YtalpmbeddldfoaaDoorF0
namespace Go.Proofs.YtalpmbeddldfoaaDoor.PA
open Go.RowKit Go.Proofs.YtalpmbeddldfoaaDoor.Hand Go.Proofs.YtalpmbeddldfoaaDoorW.PrintWords Go.Proofs.YtalpmbeddldfoaaDoorW.PrintLast Go.Proofs.YtalpmbeddldfoaaDoorW.PrintMore
attribute [local go_sem] vW vV zc zb vG vF vU vT
attribute [local go_sem high] za zd ze
set_option linter.unusedVariables false
set_option linter.unusedSimpArgs false
mutual
def qD.l0 : Nat→List (vP)→Int→Option (Bool)
 | 0,_,_=>none
 | k + 1,x0,x3=>if x3<(x0.length : Int) then(qD.j1 k x0 x3 (decide (x3<80))) else(qD.j1 k x0 x3 false)
def qD.j1 : Nat→List (vP)→Int→Bool→Option (Bool)
 | 0,_,_,_=>none
 | k + 1,x0,x3,x11=>if x11=true then(if 0≤x3 then(if x3<(x0.length : Int) then(if(((qj x0 x3).f0).size : Int) > 200 then(some true) else(if(((qj x0 x3).f1).size : Int) > 200 then(some true) else(qD.l0 k x0 (wrap64 (x3 + 1))))) else(none)) else(none)) else(some (decide ((x0.length : Int) > 80)))
end
def qD.f(k : Nat)(l0 : List (vP)) : Option (Bool):=qD.l0 k l0 0
theorem qD.mono_l : ∀ k,(∀ y0 y1,qR (qD.l0 k y0 y1) (qD.l0 (k + 1) y0 y1))∧(∀ y0 y1 y2,qR (qD.j1 k y0 y1 y2) (qD.j1 (k + 1) y0 y1 y2))
 | 0=>⟨fun _ _ r h=>by simp [qD.l0] at h,fun _ _ _ r h=>by simp [qD.j1] at h⟩
 | k + 1=>by
  obtain⟨ih0,ih1⟩:=qD.mono_l k;refine⟨?_,?_⟩
  ·intro y0 y1
   unfold qD.l0
   repeat' first
   | (with_reducible exact ih0 _ _)
   | (with_reducible exact ih1 _ _ _)
   | (with_reducible exact qR.refl _)
   | (with_reducible exact qR.none _)
   | (with_reducible refine qR.ite ?_ ?_)
   | (with_reducible refine qR.bind ?_ (fun _=>?_))
   | exact ih0 _ _
   | exact ih1 _ _ _
   | exact qR.none _
   | refine qR.ite ?_ ?_
   | refine qR.bind ?_ (fun _=>?_)
  ·intro y0 y1 y2
   unfold qD.j1
   repeat' first
   | (with_reducible exact ih0 _ _)
   | (with_reducible exact ih1 _ _ _)
   | (with_reducible exact qR.refl _)
   | (with_reducible exact qR.none _)
   | (with_reducible refine qR.ite ?_ ?_)
   | (with_reducible refine qR.bind ?_ (fun _=>?_))
   | exact ih0 _ _
   | exact ih1 _ _ _
   | exact qR.none _
   | refine qR.ite ?_ ?_
   | refine qR.bind ?_ (fun _=>?_)
theorem qD.mono : ∀ a0 k,qR (qD.f k a0) (qD.f (k + 1) a0):=by
 intro a0 k;obtain⟨ih0,ih1⟩:=qD.mono_l k;unfold qD.f
 repeat' first
  | (with_reducible exact ih0 _ _)
  | (with_reducible exact ih1 _ _ _)
  | (with_reducible exact qR.refl _)
  | (with_reducible exact qR.none _)
  | (with_reducible refine qR.ite ?_ ?_)
  | (with_reducible refine qR.bind ?_ (fun _=>?_))
  | exact ih0 _ _
  | exact ih1 _ _ _
  | exact qR.none _
  | refine qR.ite ?_ ?_
  | refine qR.bind ?_ (fun _=>?_)
set_option maxHeartbeats 8000000 in
set_option maxRecDepth 100000 in
theorem qD.calls(k : Nat)(A0 : Option Addr)(c0 : Nat)(l0 : List (vP))(r : Bool)(w : World)(hr0 : Kd.C zM w A0 l0.length l0)(hc0 : l0.length≤c0)(h : qD.f k l0=some r) :
 Calls Tryd.prog 46 #[.slice A0 l0.length c0] w fun e w'=>e = .returned (.bool r)∧qz w w':=by
 have HR0:=qb.mk hr0;have HC0:=qb.mk hc0;clear hr0 hc0;have H : (qD.l0 k l0 0)=some r:=h;clear h;have H':=qb.mk H;clear H;go_enter Tryd.func46,Tryd.ntmps46
 go_wp2
 go_loopg [3] k (fun kq v3 w'=>∃ (Aa : Int),v3 = .int .i64 Aa∧qb (qD.l0 kq l0 Aa=some r)∧qb (kq≤k)∧qz w w')
 case atStart=>exact⟨(0),(by first|rfl|(simp;done)|(simp [*];done)),H',⟨Nat.le_refl _⟩,by repeat(first|exact qz.refl _|apply qz.step)⟩
 case round=>
  clear H';obtain⟨Aa,rfl,HA,HK1,⟨m1,rfl⟩⟩:=hrel
  cases gk with
  | zero=>exact absurd HA.out (by simp [qD.l0])
  | succ k1=>
   have H:=HA.out;clear HA;simp only [qD.l0] at H;have HC2:=qb.mk H;clear H;go_upto_region 2 with (fail)
   go_cut [11] (fun v11 wc=>∃ (kq : Nat) (Ab : Bool),v11 = .bool Ab∧qb (qD.j1 kq l0 Aa Ab=some r)∧qb (kq≤k1)∧qz w wc)
   case first=>
    have H:=HC2.out;clear HC2;by_cases c3 : Aa<(l0.length : Int)
    ·rw [if_pos c3] at H
     have Af : decide (Aa<(l0.length : Int))=true:=decide_eq_true c3;clear c3
     (first|rw [Af]|(simp only [qm,qq];rw [Af])|skip)
     have H':=qb.mk H;clear H;go_wp2
     go_meet
     case rel=>exact⟨_,(decide (Aa<80)),(by first|rfl|(simp;done)|(simp [*];done)),H',⟨by have:=HK1.out;first|omega|exact Nat.le_refl _⟩,by repeat(first|exact qz.refl _|apply qz.step)⟩
    ·rw [if_neg c3] at H
     have Af : decide (Aa<(l0.length : Int))=false:=decide_eq_false c3;clear c3
     (first|rw [Af]|(simp only [qm,qq];rw [Af])|skip)
     have H':=qb.mk H;clear H;go_wp2
     go_meet
     case rel=>exact⟨_,(false),(by first|rfl|(simp;done)|(simp [*];done)),H',⟨by have:=HK1.out;first|omega|exact Nat.le_refl _⟩,by repeat(first|exact qz.refl _|apply qz.step)⟩
   case rest=>
    clear HC2;try clear p2
    try clear c3
    try clear Af
    obtain⟨kq,Ab,rfl,HA,HJ1,⟨mc1,rfl⟩⟩:=hcut
    cases kq with
    | zero=>exact absurd HA.out (by simp [qD.j1])
    | succ kj1=>
     have H:=HA.out;clear HA;simp only [qD.j1] at H;by_cases c4 : Ab=true
     ·subst c4
      have H1 : (if 0≤Aa then(if Aa<(l0.length : Int) then(if(((qj l0 Aa).f0).size : Int) > 200 then(some true) else(if(((qj l0 Aa).f1).size : Int) > 200 then(some true) else(qD.l0 kj1 l0 (wrap64 (Aa + 1))))) else(none)) else(none))=some r:=by rw [if_pos rfl] at H;exact H
      clear H;have H:=H1;clear H1;by_cases c5 : 0≤Aa
      ·rw [if_pos c5] at H
       have c5b0 : decide (0≤Aa)=true:=decide_eq_true c5;clear c5;by_cases c6 : Aa<(l0.length : Int)
       ·rw [if_pos c6] at H
        have c6b0 : decide (Aa<(l0.length : Int))=true:=decide_eq_true c6;clear c6;by_cases c7 : (((qj l0 Aa).f0).size : Int) > 200
        ·rw [if_pos c7] at H
         have c7b0 : decide (200<(((qj l0 Aa).f0).size : Int))=true:=decide_eq_true c7;have c7b1 : decide (200<((qj l0 Aa).f0).size)=true:=decide_eq_true (by omega);clear c7;obtain rfl:=Option.some.inj H;have p166 : 0≤(Aa : Int):=of_decide_eq_true (by first|(with_reducible assumption)|assumption);have q166 : Aa<(l0.length : Int):=of_decide_eq_true (by first|(with_reducible assumption)|assumption);obtain⟨ad166,e166,Ac,Ad,Ae⟩:=vY HR0.out Aa p166 q166
         cases e166
         replace p166:=eq_true p166;replace q166:=eq_true q166;go_wp2
         go_ret
         exact⟨by first|rfl|(simp;done)|(simp [*];done),by repeat(first|exact qz.refl _|apply qz.step)⟩
        ·rw [if_neg c7] at H
         have c7b0 : decide (200<(((qj l0 Aa).f0).size : Int))=false:=decide_eq_false c7;have c7b1 : decide (200<((qj l0 Aa).f0).size)=false:=decide_eq_false (by omega);clear c7;by_cases c8 : (((qj l0 Aa).f1).size : Int) > 200
         ·rw [if_pos c8] at H
          have c8b0 : decide (200<(((qj l0 Aa).f1).size : Int))=true:=decide_eq_true c8;have c8b1 : decide (200<((qj l0 Aa).f1).size)=true:=decide_eq_true (by omega);clear c8;obtain rfl:=Option.some.inj H;have p166 : 0≤(Aa : Int):=of_decide_eq_true (by first|(with_reducible assumption)|assumption);have q166 : Aa<(l0.length : Int):=of_decide_eq_true (by first|(with_reducible assumption)|assumption);obtain⟨ad166,e166,Ac,Ad,Ae⟩:=vY HR0.out Aa p166 q166
          cases e166
          replace p166:=eq_true p166;replace q166:=eq_true q166;have p167 : 0≤(Aa : Int):=of_decide_eq_true (by first|(with_reducible assumption)|assumption);have q167 : Aa<(l0.length : Int):=of_decide_eq_true (by first|(with_reducible assumption)|assumption);obtain⟨ad167,e167,Ag,Ah,Ai⟩:=vY HR0.out Aa p167 q167;obtain rfl : ad166=ad167:=(by injection e167);replace p167:=eq_true p167;replace q167:=eq_true q167;go_wp2
          go_ret
          exact⟨by first|rfl|(simp;done)|(simp [*];done),by repeat(first|exact qz.refl _|apply qz.step)⟩
         ·rw [if_neg c8] at H
          have c8b0 : decide (200<(((qj l0 Aa).f1).size : Int))=false:=decide_eq_false c8;have c8b1 : decide (200<((qj l0 Aa).f1).size)=false:=decide_eq_false (by omega);clear c8;have H':=qb.mk H;clear H;have p166 : 0≤(Aa : Int):=of_decide_eq_true (by first|(with_reducible assumption)|assumption);have q166 : Aa<(l0.length : Int):=of_decide_eq_true (by first|(with_reducible assumption)|assumption);obtain⟨ad166,e166,Ac,Ad,Ae⟩:=vY HR0.out Aa p166 q166
          cases e166
          replace p166:=eq_true p166;replace q166:=eq_true q166;have p167 : 0≤(Aa : Int):=of_decide_eq_true (by first|(with_reducible assumption)|assumption);have q167 : Aa<(l0.length : Int):=of_decide_eq_true (by first|(with_reducible assumption)|assumption);obtain⟨ad167,e167,Ag,Ah,Ai⟩:=vY HR0.out Aa p167 q167;obtain rfl : ad166=ad167:=(by injection e167);replace p167:=eq_true p167;replace q167:=eq_true q167;go_wp2
          go_roundg kj1
          case measure=>have:=HK1.out;have:=HJ1.out;omega
          case rel=>exact⟨(wrap64 (Aa + 1)),(by first|rfl|(simp;done)|(simp [*];done)),H',⟨by have:=HK1.out;have:=HJ1.out;omega⟩,by repeat(first|exact qz.refl _|apply qz.step)⟩
       ·rw [if_neg c6] at H
        exact absurd H (by simp)
      ·rw [if_neg c5] at H
       exact absurd H (by simp)
     ·replace c4:=Bool.eq_false_iff.mpr c4
      subst c4;have H1 : (some (decide ((l0.length : Int) > 80)))=some r:=by rw [if_neg (show ¬ (false=true) by decide)] at H;exact H
      clear H;have H:=H1;clear H1;obtain rfl:=Option.some.inj H;go_wp2
      go_ret
      exact⟨by first|rfl|(simp;done)|(simp [*];done),by repeat(first|exact qz.refl _|apply qz.step)⟩
end Go.Proofs.YtalpmbeddldfoaaDoor.PA
