import Derived.Test.YtalpmbeddldfoaaDoorF0
namespace Go.Proofs.YtalpmbeddldfoaaDoor.PA
open Go.RowKit Go.Proofs.YtalpmbeddldfoaaDoor.Hand Go.Proofs.YtalpmbeddldfoaaDoorW.PrintWords Go.Proofs.YtalpmbeddldfoaaDoorW.PrintLast Go.Proofs.YtalpmbeddldfoaaDoorW.PrintMore
attribute [local go_sem] vQ vS zc za vH vJ vR vT   -- for this text's walks alone
attribute [local go_sem high] vZ zd zb
set_option linter.unusedVariables false
set_option linter.unusedSimpArgs false
def qL.l0 : Nat→List (vA)→Int→Option (Bool)
 | 0,_,_=>none
 | k + 1,x0,x3=>if x3<(x0.length : Int) then(if 0≤x3 then(if 0≤(wrap64 (x3 - 1)) then(if(wrap64 (x3 - 1))<(x0.length : Int) then(if((Op.bytesLess (((qn x0 (wrap64 (x3 - 1))).f0).toList) (((qn x0 x3).f0).toList))=true) then(qL.l0 k x0 (wrap64 (x3 + 1))) else(some false)) else(none)) else(none)) else(none)) else(some true)
def qL.f(k : Nat)(l0 : List (vA)) : Option (Bool):=qL.l0 k l0 1
theorem qL.mono_l : ∀ k,(∀ y0 y1,qY (qL.l0 k y0 y1) (qL.l0 (k + 1) y0 y1))
 | 0=>fun _ _ r h=>by simp [qL.l0] at h
 | k + 1=>by
  have ih0:=qL.mono_l k
  ·intro y0 y1
   unfold qL.l0
   repeat' first
   | (with_reducible exact ih0 _ _)
   | (with_reducible exact qY.refl _)
   | (with_reducible exact qY.none _)
   | (with_reducible refine qY.ite ?_ ?_)
   | (with_reducible refine qY.bind ?_ (fun _=>?_))
   | exact ih0 _ _
   | exact qY.none _
   | refine qY.ite ?_ ?_
   | refine qY.bind ?_ (fun _=>?_)
theorem qL.mono : ∀ a0 k,qY (qL.f k a0) (qL.f (k + 1) a0):=by
 intro a0 k;have ih0:=qL.mono_l k;unfold qL.f
 repeat' first
  | (with_reducible exact ih0 _ _)
  | (with_reducible exact qY.refl _)
  | (with_reducible exact qY.none _)
  | (with_reducible refine qY.ite ?_ ?_)
  | (with_reducible refine qY.bind ?_ (fun _=>?_))
  | exact ih0 _ _
  | exact qY.none _
  | refine qY.ite ?_ ?_
  | refine qY.bind ?_ (fun _=>?_)
set_option maxHeartbeats 8000000 in
set_option maxRecDepth 100000 in
theorem qL.calls(k : Nat)(A0 : Option Addr)(c0 : Nat)(l0 : List (vA))(r : Bool)(w : World)(hr0 : Kd.C zq w A0 l0.length l0)(hc0 : l0.length≤c0)(h : qL.f k l0=some r) :
 Calls Tryd.prog 50 #[.slice A0 l0.length c0] w fun e w'=>e = .returned (.bool r)∧qE w w':=by
 have HR0:=qd.mk hr0;have HC0:=qd.mk hc0;clear hr0 hc0;have H : (qL.l0 k l0 1)=some r:=h;clear h;have H':=qd.mk H;clear H;go_enter Tryd.func50,Tryd.ntmps50
 go_wp2
 repeat(go_quiet (fail);try go_wp2)
 go_loopg [3] k (fun kq v3 w'=>∃ (Aa : Int),v3 = .int .i64 Aa∧qd (qL.l0 kq l0 Aa=some r)∧qd (kq≤k)∧qE w w')
 case atStart=>exact⟨(1),(by first|rfl|(simp;done)|(simp [*];done)),H',⟨Nat.le_refl _⟩,by repeat(first|exact qE.refl _|apply qE.step)⟩
 case round=>
  clear H';obtain⟨Aa,rfl,HA,HK1,⟨m1,rfl⟩⟩:=hrel
  cases gk with
  | zero=>exact absurd HA.out (by simp [qL.l0])
  | succ k1=>
   have H:=HA.out;clear HA;simp only [qL.l0] at H;by_cases c2 : Aa<(l0.length : Int)
   ·rw [if_pos c2] at H
    have c2b0 : decide (Aa<(l0.length : Int))=true:=decide_eq_true c2;clear c2;by_cases c3 : 0≤Aa
    ·rw [if_pos c3] at H
     have c3b0 : decide (0≤Aa)=true:=decide_eq_true c3;clear c3;obtain⟨Ab,Ac⟩ : ∃ j_ : Int,(wrap64 (Aa - 1))=j_:=⟨_,rfl⟩;replace H : (if 0≤(Ab) then(if(Ab)<(l0.length : Int) then(if((Op.bytesLess (((qn l0 (Ab)).f0).toList) (((qn l0 Aa).f0).toList))=true) then(qL.l0 k1 l0 (wrap64 (Aa + 1))) else(some false)) else(none)) else(none))=some r:=by first|(rw [Ac] at H;exact H)|(simp only [Ac] at H ⊢;exact H)
     have hji4w : (IntKind.i64.wrap (Aa - 1))=Ab:=(qy _).trans Ac;by_cases c5 : 0≤(Ab)
     ·rw [if_pos c5] at H
      have c5b0 : decide (0≤(Ab))=true:=decide_eq_true c5;clear c5;by_cases c6 : (Ab)<(l0.length : Int)
      ·rw [if_pos c6] at H
       have c6b0 : decide ((Ab)<(l0.length : Int))=true:=decide_eq_true c6;clear c6;by_cases c7 : ((Op.bytesLess (((qn l0 (Ab)).f0).toList) (((qn l0 Aa).f0).toList))=true)
       ·rw [if_pos c7] at H
        have c7b0 : (Op.bytesLess (((qn l0 (Ab)).f0).toList) (((qn l0 Aa).f0).toList))=true:=c7;clear c7;have H':=qd.mk H;clear H;have p257 : 0≤(Aa : Int):=of_decide_eq_true (by first|(with_reducible assumption)|assumption);have q257 : Aa<(l0.length : Int):=of_decide_eq_true (by first|(with_reducible assumption)|assumption);obtain⟨ad257,e257,Ad,Ae,Af⟩:=vz HR0.out Aa p257 q257
        cases e257
        replace p257:=eq_true p257;replace q257:=eq_true q257;have p258 : 0≤((Ab) : Int):=of_decide_eq_true (by first|(with_reducible assumption)|assumption);have q258 : (Ab)<(l0.length : Int):=of_decide_eq_true (by first|(with_reducible assumption)|assumption);obtain⟨ad258,e258,Ag,Ah,Ai⟩:=vz HR0.out (Ab) p258 q258;obtain rfl : ad257=ad258:=(by injection e258);replace p258:=eq_true p258;replace q258:=eq_true q258;go_wp2
        repeat(go_quiet (fail);try go_wp2)
        go_roundg k1
        case measure=>have:=HK1.out;omega
        case rel=>exact⟨(wrap64 (Aa + 1)),(by first|rfl|(simp;done)|(simp [*];done)),H',⟨by have:=HK1.out;omega⟩,by repeat(first|exact qE.refl _|apply qE.step)⟩
       ·rw [if_neg c7] at H
        have c7b0 : (Op.bytesLess (((qn l0 (Ab)).f0).toList) (((qn l0 Aa).f0).toList))=false:=by simpa using c7
        clear c7;obtain rfl:=Option.some.inj H;have p257 : 0≤(Aa : Int):=of_decide_eq_true (by first|(with_reducible assumption)|assumption);have q257 : Aa<(l0.length : Int):=of_decide_eq_true (by first|(with_reducible assumption)|assumption);obtain⟨ad257,e257,Ad,Ae,Af⟩:=vz HR0.out Aa p257 q257
        cases e257
        replace p257:=eq_true p257;replace q257:=eq_true q257;have p258 : 0≤((Ab) : Int):=of_decide_eq_true (by first|(with_reducible assumption)|assumption);have q258 : (Ab)<(l0.length : Int):=of_decide_eq_true (by first|(with_reducible assumption)|assumption);obtain⟨ad258,e258,Ag,Ah,Ai⟩:=vz HR0.out (Ab) p258 q258;obtain rfl : ad257=ad258:=(by injection e258);replace p258:=eq_true p258;replace q258:=eq_true q258;go_wp2
        repeat(go_quiet (fail);try go_wp2)
        go_ret
        exact⟨by first|rfl|(simp;done)|(simp only [← Ac] <;> (first|rfl|simp))|(simp [*];done),by repeat(first|exact qE.refl _|apply qE.step)⟩
      ·rw [if_neg c6] at H
       exact absurd H (by simp)
     ·rw [if_neg c5] at H
      exact absurd H (by simp)
    ·rw [if_neg c3] at H
     exact absurd H (by simp)
   ·rw [if_neg c2] at H
    have c2b0 : decide (Aa<(l0.length : Int))=false:=decide_eq_false c2;clear c2;obtain rfl:=Option.some.inj H;go_wp2
    repeat(go_quiet (fail);try go_wp2)
    go_ret
    exact⟨by first|rfl|(simp;done)|(simp [*];done),by repeat(first|exact qE.refl _|apply qE.step)⟩
end Go.Proofs.YtalpmbeddldfoaaDoor.PA
