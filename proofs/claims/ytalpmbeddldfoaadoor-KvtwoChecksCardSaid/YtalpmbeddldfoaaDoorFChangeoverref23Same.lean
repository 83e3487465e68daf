import Derived.Test.YtalpmbeddldfoaaDoorF0
import Derived.Test.YtalpmbeddldfoaaDoorFEq1
namespace Go.Proofs.YtalpmbeddldfoaaDoor.PA
open Go.RowKit Go.Proofs.YtalpmbeddldfoaaDoor.Hand Go.Proofs.YtalpmbeddldfoaaDoorW.PrintWords Go.Proofs.YtalpmbeddldfoaaDoorW.PrintLast Go.Proofs.YtalpmbeddldfoaaDoorW.PrintMore
attribute [local go_sem] vQ vS zc za vH vJ vR vT   -- for this text's walks alone
attribute [local go_sem high] vZ zd zb
set_option linter.unusedVariables false
set_option linter.unusedSimpArgs false
attribute [local go_sem high] eqA50
def qX.l0 : Nat→List (vA)→List (vA)→Int→Option (Bool)
 | 0,_,_,_=>none
 | k + 1,x0,x1,x5=>if x5<(x0.length : Int) then(if 0≤x5 then(if x5<(x1.length : Int) then(if(!((((qn x0 x5).f0).toList) == (((qn x1 x5).f0).toList)) || (!((((qn x0 x5).f1).toList) == (((qn x1 x5).f1).toList)) || (!(((qn x0 x5).f2) == ((qn x1 x5).f2)))))=true then(some false) else(qX.l0 k x0 x1 (wrap64 (x5 + 1)))) else(none)) else(none)) else(some true)
def qX.f(k : Nat)(l0 : List (vA))(l1 : List (vA)) : Option (Bool):=if(l0.length : Int)=(l1.length : Int) then(qX.l0 k l0 l1 0) else(some false)
theorem qX.mono_l : ∀ k,(∀ y0 y1 y2,qY (qX.l0 k y0 y1 y2) (qX.l0 (k + 1) y0 y1 y2))
 | 0=>fun _ _ _ r h=>by simp [qX.l0] at h
 | k + 1=>by
  have ih0:=qX.mono_l k
  ·intro y0 y1 y2
   unfold qX.l0
   repeat' first
   | (with_reducible exact ih0 _ _ _)
   | (with_reducible exact qY.refl _)
   | (with_reducible exact qY.none _)
   | (with_reducible refine qY.ite ?_ ?_)
   | (with_reducible refine qY.bind ?_ (fun _=>?_))
   | exact ih0 _ _ _
   | exact qY.none _
   | refine qY.ite ?_ ?_
   | refine qY.bind ?_ (fun _=>?_)
theorem qX.mono : ∀ a0 a1 k,qY (qX.f k a0 a1) (qX.f (k + 1) a0 a1):=by
 intro a0 a1 k;have ih0:=qX.mono_l k;unfold qX.f
 repeat' first
  | (with_reducible exact ih0 _ _ _)
  | (with_reducible exact qY.refl _)
  | (with_reducible exact qY.none _)
  | (with_reducible refine qY.ite ?_ ?_)
  | (with_reducible refine qY.bind ?_ (fun _=>?_))
  | exact ih0 _ _ _
  | exact qY.none _
  | refine qY.ite ?_ ?_
  | refine qY.bind ?_ (fun _=>?_)
set_option maxHeartbeats 8000000 in
set_option maxRecDepth 100000 in
theorem qX.calls(k : Nat)(A0 : Option Addr)(c0 : Nat)(l0 : List (vA))(A1 : Option Addr)(c1 : Nat)(l1 : List (vA))(r : Bool)(w : World)(hr0 : Kd.C zq w A0 l0.length l0)(hc0 : l0.length≤c0)(hr1 : Kd.C zq w A1 l1.length l1)(hc1 : l1.length≤c1)(h : qX.f k l0 l1=some r) :
 Calls Tryd.prog 72 #[.slice A0 l0.length c0,.slice A1 l1.length c1] w fun e w'=>e = .returned (.bool r)∧qE w w':=by
 have hu50:=Tryd.underlying50;have HR0:=qd.mk hr0;have HC0:=qd.mk hc0;clear hr0 hc0;have HR1:=qd.mk hr1;have HC1:=qd.mk hc1;clear hr1 hc1;have H : (if(l0.length : Int)=(l1.length : Int) then(qX.l0 k l0 l1 0) else(some false))=some r:=h;clear h;by_cases c3 : (l0.length : Int)=(l1.length : Int)
 ·rw [if_pos c3] at H
  have c3b0 : ((l0.length : Int) == (l1.length : Int))=true:=beq_iff_eq.mpr c3;have c3b1 : ((l0.length : Int) != (l1.length : Int))=false:=bne_eq_false_iff_eq.mpr c3;have c3b2 : (l0.length == l1.length)=true:=by first|simpa using c3|(simp at c3 ⊢;omega)
  clear c3;have H':=qd.mk H;clear H;go_enter Tryd.func72,Tryd.ntmps72
  go_wp2
  repeat(go_quiet (fail);try go_wp2)
  go_loopg [5] k (fun kq v5 w'=>∃ (Aa : Int),v5 = .int .i64 Aa∧qd (qX.l0 kq l0 l1 Aa=some r)∧qd (kq≤k)∧qE w w')
  case atStart=>exact⟨(0),(by first|rfl|(simp;done)|(simp [*];done)),H',⟨Nat.le_refl _⟩,by repeat(first|exact qE.refl _|apply qE.step)⟩
  case round=>
   clear H';try clear c1
   try clear p2
   try clear c3
   try clear c3b0
   try clear c3b1
   try clear c3b2
   obtain⟨Aa,rfl,HA,HK1,⟨m1,rfl⟩⟩:=hrel
   cases gk with
   | zero=>exact absurd HA.out (by simp [qX.l0])
   | succ k1=>
    have H:=HA.out;clear HA;simp only [qX.l0] at H;by_cases c4 : Aa<(l0.length : Int)
    ·rw [if_pos c4] at H
     have c4b0 : decide (Aa<(l0.length : Int))=true:=decide_eq_true c4;clear c4;by_cases c5 : 0≤Aa
     ·rw [if_pos c5] at H
      have c5b0 : decide (0≤Aa)=true:=decide_eq_true c5;clear c5;by_cases c6 : Aa<(l1.length : Int)
      ·rw [if_pos c6] at H
       have c6b0 : decide (Aa<(l1.length : Int))=true:=decide_eq_true c6;clear c6;by_cases c7 : (!((((qn l0 Aa).f0).toList) == (((qn l1 Aa).f0).toList)) || (!((((qn l0 Aa).f1).toList) == (((qn l1 Aa).f1).toList)) || (!(((qn l0 Aa).f2) == ((qn l1 Aa).f2)))))=true
       ·rw [if_pos c7] at H
        have c7b0 : (!((((qn l0 Aa).f0).toList) == (((qn l1 Aa).f0).toList)) || (!((((qn l0 Aa).f1).toList) == (((qn l1 Aa).f1).toList)) || (!(((qn l0 Aa).f2) == ((qn l1 Aa).f2)))))=true:=c7;clear c7;obtain rfl:=Option.some.inj H;have p273 : 0≤(Aa : Int):=of_decide_eq_true (by first|(with_reducible assumption)|assumption);have q273 : Aa<(l0.length : Int):=of_decide_eq_true (by first|(with_reducible assumption)|assumption);obtain⟨ad273,e273,Ab,Ac,Ad⟩:=vz HR0.out Aa p273 q273
        cases e273
        replace p273:=eq_true p273;replace q273:=eq_true q273;have p274 : 0≤(Aa : Int):=of_decide_eq_true (by first|(with_reducible assumption)|assumption);have q274 : Aa<(l1.length : Int):=of_decide_eq_true (by first|(with_reducible assumption)|assumption);obtain⟨ad274,e274,Ae,Af,Ag⟩:=vz HR1.out Aa p274 q274
        cases e274
        replace p274:=eq_true p274;replace q274:=eq_true q274;go_wp2
        repeat(go_quiet (fail);try go_wp2)
        go_ret
        exact⟨by first|rfl|(simp;done)|(simp [*];done),by repeat(first|exact qE.refl _|apply qE.step)⟩
       ·rw [if_neg c7] at H
        have c7b0 : (!((((qn l0 Aa).f0).toList) == (((qn l1 Aa).f0).toList)) || (!((((qn l0 Aa).f1).toList) == (((qn l1 Aa).f1).toList)) || (!(((qn l0 Aa).f2) == ((qn l1 Aa).f2)))))=false:=by simpa using c7
        clear c7;have H':=qd.mk H;clear H;have p273 : 0≤(Aa : Int):=of_decide_eq_true (by first|(with_reducible assumption)|assumption);have q273 : Aa<(l0.length : Int):=of_decide_eq_true (by first|(with_reducible assumption)|assumption);obtain⟨ad273,e273,Ab,Ac,Ad⟩:=vz HR0.out Aa p273 q273
        cases e273
        replace p273:=eq_true p273;replace q273:=eq_true q273;have p274 : 0≤(Aa : Int):=of_decide_eq_true (by first|(with_reducible assumption)|assumption);have q274 : Aa<(l1.length : Int):=of_decide_eq_true (by first|(with_reducible assumption)|assumption);obtain⟨ad274,e274,Ae,Af,Ag⟩:=vz HR1.out Aa p274 q274
        cases e274
        replace p274:=eq_true p274;replace q274:=eq_true q274;go_wp2
        repeat(go_quiet (fail);try go_wp2)
        go_roundg k1
        case measure=>have:=HK1.out;omega
        case rel=>exact⟨(wrap64 (Aa + 1)),(by first|rfl|(simp;done)|(simp [*];done)),H',⟨by have:=HK1.out;omega⟩,by repeat(first|exact qE.refl _|apply qE.step)⟩
      ·rw [if_neg c6] at H
       exact absurd H (by simp)
     ·rw [if_neg c5] at H
      exact absurd H (by simp)
    ·rw [if_neg c4] at H
     have c4b0 : decide (Aa<(l0.length : Int))=false:=decide_eq_false c4;clear c4;obtain rfl:=Option.some.inj H;go_wp2
     repeat(go_quiet (fail);try go_wp2)
     go_ret
     exact⟨by first|rfl|(simp;done)|(simp [*];done),by repeat(first|exact qE.refl _|apply qE.step)⟩
 ·rw [if_neg c3] at H
  have c3b0 : ((l0.length : Int) == (l1.length : Int))=false:=beq_eq_false_iff_ne.mpr c3;have c3b1 : ((l0.length : Int) != (l1.length : Int))=true:=bne_iff_ne.mpr c3;have c3b2 : (l0.length == l1.length)=false:=by first|simpa using c3|(simp at c3 ⊢;omega)
  obtain rfl:=Option.some.inj H;go_enter Tryd.func72,Tryd.ntmps72
  go_wp2
  repeat(go_quiet (fail);try go_wp2)
  go_ret
  exact⟨by first|rfl|(simp;done)|(simp [*];done),by repeat(first|exact qE.refl _|apply qE.step)⟩
end Go.Proofs.YtalpmbeddldfoaaDoor.PA
