import Derived.Test.YtalpmbeddldfoaaDoorF0
namespace Go.Proofs.YtalpmbeddldfoaaDoor.PA
open Go.RowKit Go.Proofs.YtalpmbeddldfoaaDoor.Hand Go.Proofs.YtalpmbeddldfoaaDoorW.PrintWords Go.Proofs.YtalpmbeddldfoaaDoorW.PrintLast Go.Proofs.YtalpmbeddldfoaaDoorW.PrintMore
attribute [local go_sem] vQ vS zc za vH vJ vR vT   -- for this text's walks alone
attribute [local go_sem high] vZ zd zb
set_option linter.unusedVariables false
set_option linter.unusedSimpArgs false
def qU.l0 : Nat→List (vA)→ByteArray→Int→Option (Int)
 | 0,_,_,_=>none
 | k + 1,x0,x1,x5=>if x5<(x0.length : Int) then(if 0≤x5 then(if((qn x0 x5).f0).toList=x1.toList then(some x5) else(qU.l0 k x0 x1 (wrap64 (x5 + 1)))) else(none)) else(some (-1))
def qU.f(k : Nat)(l0 : List (vA))(a1 : ByteArray) : Option (Int):=qU.l0 k l0 a1 0
theorem qU.mono_l : ∀ k,(∀ y0 y1 y2,qY (qU.l0 k y0 y1 y2) (qU.l0 (k + 1) y0 y1 y2))
 | 0=>fun _ _ _ r h=>by simp [qU.l0] at h
 | k + 1=>by
  have ih0:=qU.mono_l k
  ·intro y0 y1 y2
   unfold qU.l0
   repeat' first
   | (with_reducible exact ih0 _ _ _)
   | (with_reducible exact qY.refl _)
   | (with_reducible exact qY.none _)
   | (with_reducible refine qY.ite ?_ ?_)
   | (with_reducible refine qY.bind ?_ (fun _=>?_))
   | exact ih0 _ _ _
   | exact qY.none _
   | refine qY.ite ?_ ?_
   | refine qY.bind ?_ (fun _=>?_)
theorem qU.mono : ∀ a0 a1 k,qY (qU.f k a0 a1) (qU.f (k + 1) a0 a1):=by
 intro a0 a1 k;have ih0:=qU.mono_l k;unfold qU.f
 repeat' first
  | (with_reducible exact ih0 _ _ _)
  | (with_reducible exact qY.refl _)
  | (with_reducible exact qY.none _)
  | (with_reducible refine qY.ite ?_ ?_)
  | (with_reducible refine qY.bind ?_ (fun _=>?_))
  | exact ih0 _ _ _
  | exact qY.none _
  | refine qY.ite ?_ ?_
  | refine qY.bind ?_ (fun _=>?_)
set_option maxHeartbeats 8000000 in
set_option maxRecDepth 100000 in
theorem qU.calls(k : Nat)(A0 : Option Addr)(c0 : Nat)(l0 : List (vA))(a1 : ByteArray)(r : Int)(w : World)(hr0 : Kd.C zq w A0 l0.length l0)(hc0 : l0.length≤c0)(h : qU.f k l0 a1=some r) :
 Calls Tryd.prog 52 #[.slice A0 l0.length c0,.string a1] w fun e w'=>e = .returned (.int .i64 r)∧qE w w':=by
 have HR0:=qd.mk hr0;have HC0:=qd.mk hc0;clear hr0 hc0;have H : (qU.l0 k l0 a1 0)=some r:=h;clear h;have H':=qd.mk H;clear H;go_enter Tryd.func52,Tryd.ntmps52
 go_wp2
 go_loopg [5] k (fun kq v5 w'=>∃ (Aa : Int),v5 = .int .i64 Aa∧qd (qU.l0 kq l0 a1 Aa=some r)∧qd (kq≤k)∧qE w w')
 case atStart=>exact⟨(0),(by first|rfl|(simp;done)|(simp [*];done)),H',⟨Nat.le_refl _⟩,by repeat(first|exact qE.refl _|apply qE.step)⟩
 case round=>
  clear H';try clear p2
  obtain⟨Aa,rfl,HA,HK1,⟨m1,rfl⟩⟩:=hrel
  cases gk with
  | zero=>exact absurd HA.out (by simp [qU.l0])
  | succ k1=>
   have H:=HA.out;clear HA;simp only [qU.l0] at H;by_cases c3 : Aa<(l0.length : Int)
   ·rw [if_pos c3] at H
    have c3b0 : decide (Aa<(l0.length : Int))=true:=decide_eq_true c3;clear c3;by_cases c4 : 0≤Aa
    ·rw [if_pos c4] at H
     have c4b0 : decide (0≤Aa)=true:=decide_eq_true c4;clear c4;by_cases c5 : ((qn l0 Aa).f0).toList=a1.toList
     ·rw [if_pos c5] at H
      have c5b0 : (((qn l0 Aa).f0).toList == a1.toList)=true:=beq_iff_eq.mpr c5;have c5b1 : (((qn l0 Aa).f0).toList != a1.toList)=false:=bne_eq_false_iff_eq.mpr c5;clear c5;obtain rfl:=Option.some.inj H;have p525 : 0≤(Aa : Int):=of_decide_eq_true (by first|(with_reducible assumption)|assumption);have q525 : Aa<(l0.length : Int):=of_decide_eq_true (by first|(with_reducible assumption)|assumption);obtain⟨ad525,e525,Ab,Ac,Ad⟩:=vz HR0.out Aa p525 q525
      cases e525
      replace p525:=eq_true p525;replace q525:=eq_true q525;go_wp2
      go_ret
      exact⟨by first|rfl|(simp;done)|(simp [*];done),by repeat(first|exact qE.refl _|apply qE.step)⟩
     ·rw [if_neg c5] at H
      have c5b0 : (((qn l0 Aa).f0).toList == a1.toList)=false:=beq_eq_false_iff_ne.mpr c5;have c5b1 : (((qn l0 Aa).f0).toList != a1.toList)=true:=bne_iff_ne.mpr c5;have H':=qd.mk H;clear H;have p525 : 0≤(Aa : Int):=of_decide_eq_true (by first|(with_reducible assumption)|assumption);have q525 : Aa<(l0.length : Int):=of_decide_eq_true (by first|(with_reducible assumption)|assumption);obtain⟨ad525,e525,Ab,Ac,Ad⟩:=vz HR0.out Aa p525 q525
      cases e525
      replace p525:=eq_true p525;replace q525:=eq_true q525;go_wp2
      go_roundg k1
      case measure=>have:=HK1.out;omega
      case rel=>exact⟨(wrap64 (Aa + 1)),(by first|rfl|(simp;done)|(simp [*];done)),H',⟨by have:=HK1.out;omega⟩,by repeat(first|exact qE.refl _|apply qE.step)⟩
    ·rw [if_neg c4] at H
     exact absurd H (by simp)
   ·rw [if_neg c3] at H
    have c3b0 : decide (Aa<(l0.length : Int))=false:=decide_eq_false c3;clear c3;obtain rfl:=Option.some.inj H;go_wp2
    go_ret
    exact⟨by first|rfl|(simp;done)|(simp [*];done),by repeat(first|exact qE.refl _|apply qE.step)⟩
end Go.Proofs.YtalpmbeddldfoaaDoor.PA
