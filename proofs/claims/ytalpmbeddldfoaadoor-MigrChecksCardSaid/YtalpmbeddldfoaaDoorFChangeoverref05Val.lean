import Derived.Test.YtalpmbeddldfoaaDoorF0
import Derived.Test.YtalpmbeddldfoaaDoorFChangeoverref23Place
namespace Go.Proofs.YtalpmbeddldfoaaDoor.PA
open Go.RowKit Go.Proofs.YtalpmbeddldfoaaDoor.Hand Go.Proofs.YtalpmbeddldfoaaDoorW.PrintWords Go.Proofs.YtalpmbeddldfoaaDoorW.PrintLast Go.Proofs.YtalpmbeddldfoaaDoorW.PrintMore
attribute [local go_sem] vW vV zc zb vG vF vU vT
attribute [local go_sem high] za zd ze
set_option linter.unusedVariables false
set_option linter.unusedSimpArgs false
mutual
def qv.j0 : Nat→ByteArray→Bool→Option (Bool)
 | 0,_,_=>none
 | k + 1,x0,x11=>if x11=true then(some false) else(qv.l0 k x0 0)
def qv.l0 : Nat→ByteArray→Int→Option (Bool)
 | 0,_,_=>none
 | k + 1,x0,x3=>if x3<(x0.size : Int) then(if 0≤x3 then(if(bt x0 x3)<32 then(some false) else(if(bt x0 x3)=127 then(some false) else(qv.l0 k x0 (wrap64 (x3 + 1))))) else(none)) else(some true)
end
def qv.f(k : Nat)(a0 : ByteArray) : Option (Bool):=if(a0.size : Int) > 48 then(qv.j0 k a0 true) else((qP.f k a0).bind fun Ab=>(qv.j0 k a0 (decide (Ab ≥ 0))))
theorem qv.mono_l : ∀ k,(∀ y0 y1,qR (qv.j0 k y0 y1) (qv.j0 (k + 1) y0 y1))∧(∀ y0 y1,qR (qv.l0 k y0 y1) (qv.l0 (k + 1) y0 y1))
 | 0=>⟨fun _ _ r h=>by simp [qv.j0] at h,fun _ _ r h=>by simp [qv.l0] at h⟩
 | k + 1=>by
  obtain⟨ih0,ih1⟩:=qv.mono_l k;refine⟨?_,?_⟩
  ·intro y0 y1
   unfold qv.j0
   repeat' first
   | (with_reducible exact ih0 _ _)
   | (with_reducible exact ih1 _ _)
   | (with_reducible exact qP.mono _ _)
   | (with_reducible exact qR.refl _)
   | (with_reducible exact qR.none _)
   | (with_reducible refine qR.ite ?_ ?_)
   | (with_reducible refine qR.bind ?_ (fun _=>?_))
   | exact ih0 _ _
   | exact ih1 _ _
   | exact qP.mono _ _
   | exact qR.none _
   | refine qR.ite ?_ ?_
   | refine qR.bind ?_ (fun _=>?_)
  ·intro y0 y1
   unfold qv.l0
   repeat' first
   | (with_reducible exact ih0 _ _)
   | (with_reducible exact ih1 _ _)
   | (with_reducible exact qP.mono _ _)
   | (with_reducible exact qR.refl _)
   | (with_reducible exact qR.none _)
   | (with_reducible refine qR.ite ?_ ?_)
   | (with_reducible refine qR.bind ?_ (fun _=>?_))
   | exact ih0 _ _
   | exact ih1 _ _
   | exact qP.mono _ _
   | exact qR.none _
   | refine qR.ite ?_ ?_
   | refine qR.bind ?_ (fun _=>?_)
theorem qv.mono : ∀ a0 k,qR (qv.f k a0) (qv.f (k + 1) a0):=by
 intro a0 k;obtain⟨ih0,ih1⟩:=qv.mono_l k;unfold qv.f
 repeat' first
  | (with_reducible exact ih0 _ _)
  | (with_reducible exact ih1 _ _)
  | (with_reducible exact qP.mono _ _)
  | (with_reducible exact qR.refl _)
  | (with_reducible exact qR.none _)
  | (with_reducible refine qR.ite ?_ ?_)
  | (with_reducible refine qR.bind ?_ (fun _=>?_))
  | exact ih0 _ _
  | exact ih1 _ _
  | exact qP.mono _ _
  | exact qR.none _
  | refine qR.ite ?_ ?_
  | refine qR.bind ?_ (fun _=>?_)
set_option maxHeartbeats 8000000 in
set_option maxRecDepth 100000 in
theorem qv.calls(k : Nat)(a0 : ByteArray)(r : Bool)(w : World)(h : qv.f k a0=some r) :
 Calls Tryd.prog 24 #[.string a0] w fun e w'=>e = .returned (.bool r)∧qz w w':=by
 have H : (if(a0.size : Int) > 48 then(qv.j0 k a0 true) else((qP.f k a0).bind fun Ab=>(qv.j0 k a0 (decide (Ab ≥ 0)))))=some r:=h;clear h;have HC2:=qb.mk H;clear H;go_enter Tryd.func24,Tryd.ntmps24
 go_upto_region 1 with (fail)
 go_cut [11] (fun v11 wc=>∃ (kq : Nat) (Ad : Bool),v11 = .bool Ad∧qb (qv.j0 kq a0 Ad=some r)∧qb (kq≤k)∧qz w wc)
 case first=>
  have H:=HC2.out;clear HC2;by_cases c3 : (a0.size : Int) > 48
  ·rw [if_pos c3] at H
   have Ac : decide (48<(a0.size : Int))=true:=decide_eq_true c3;have Ae : decide (48<a0.size)=true:=decide_eq_true (by omega);clear c3
   (first|rw [Ac]|(simp only [qm,qq];rw [Ac])|skip)
   have H':=qb.mk H;clear H;go_wp2
   go_meet
   case rel=>exact⟨_,(true),(by first|rfl|(simp;done)|(simp [*];done)),H',⟨by first|omega|exact Nat.le_refl _⟩,by repeat(first|exact qz.refl _|apply qz.step)⟩
  ·rw [if_neg c3] at H
   have Ac : decide (48<(a0.size : Int))=false:=decide_eq_false c3;have Ae : decide (48<a0.size)=false:=decide_eq_false (by omega);clear c3
   (first|rw [Ac]|(simp only [qm,qq];rw [Ac])|skip)
   replace H:=Option.bind_eq_some_iff.mp H;obtain⟨Ab,A40,H⟩:=H;replace H : (qv.j0 k a0 (decide (Ab ≥ 0)))=some r:=H;have A4:=qb.mk A40;clear A40;have H':=qb.mk H;clear H;go_wp2_with (first|(go_at_call 19;(with_reducible refine(qP.calls k a0 Ab _ A4.out).mono ?_);rintro e w' ⟨rfl,⟨nd,rfl⟩⟩))
   go_meet
   case rel=>exact⟨_,(decide (Ab ≥ 0)),(by first|rfl|(simp;done)|(simp [*];done)),H',⟨by first|omega|exact Nat.le_refl _⟩,by repeat(first|exact qz.refl _|apply qz.step)⟩
 case rest=>
  clear HC2;try clear c2
  try clear p2
  try clear c3
  try clear Ac
  try clear Ae
  obtain⟨kq,Ad,rfl,HA,HJ1,⟨mc1,rfl⟩⟩:=hcut
  cases kq with
  | zero=>exact absurd HA.out (by simp [qv.j0])
  | succ kj1=>
   have H:=HA.out;clear HA;simp only [qv.j0] at H;by_cases c5 : Ad=true
   ·subst c5
    have H1 : (some false)=some r:=by rw [if_pos rfl] at H;exact H
    clear H;have H:=H1;clear H1;obtain rfl:=Option.some.inj H;go_wp2
    go_ret
    exact⟨by first|rfl|(simp;done)|(simp [*];done),by repeat(first|exact qz.refl _|apply qz.step)⟩
   ·replace c5:=Bool.eq_false_iff.mpr c5
    subst c5;have H1 : (qv.l0 kj1 a0 0)=some r:=by rw [if_neg (show ¬ (false=true) by decide)] at H;exact H
    clear H;have H:=H1;clear H1;have H':=qb.mk H;clear H;go_wp2
    go_loopg [3] kj1 (fun kq v3 w'=>∃ (Aa : Int),v3 = .int .i64 Aa∧qb (qv.l0 kq a0 Aa=some r)∧qb (kq≤kj1)∧qz w w')
    case atStart=>exact⟨(0),(by first|rfl|(simp;done)|(simp [*];done)),H',⟨Nat.le_refl _⟩,by repeat(first|exact qz.refl _|apply qz.step)⟩
    case round=>
     clear H';try clear c1
     try clear c2
     try clear p2
     try clear c3
     try clear Ac
     try clear Ae
     try clear c5
     try clear p2
     obtain⟨Aa,rfl,HA,HK2,⟨m2,rfl⟩⟩:=hrel
     cases gk with
     | zero=>exact absurd HA.out (by simp [qv.l0])
     | succ k2=>
      have H:=HA.out;clear HA;simp only [qv.l0] at H;by_cases c6 : Aa<(a0.size : Int)
      ·rw [if_pos c6] at H
       have c6b0 : decide (Aa<(a0.size : Int))=true:=decide_eq_true c6;clear c6;by_cases c7 : 0≤Aa
       ·rw [if_pos c7] at H
        have c7b0 : decide (0≤Aa)=true:=decide_eq_true c7;clear c7;by_cases c9 : (bt a0 Aa)<32
        ·rw [if_pos c9] at H
         have c9b0 : decide ((bt a0 Aa)<32)=true:=decide_eq_true c9;clear c9;obtain rfl:=Option.some.inj H;have p8 : 0≤(Aa : Int):=of_decide_eq_true (by first|(with_reducible assumption)|assumption);have q8 : Aa<(a0.size : Int):=of_decide_eq_true (by first|(with_reducible assumption)|assumption);have hx8:=Qj a0 Aa;replace p8:=eq_true p8;replace q8:=eq_true q8;go_wp2
         go_ret
         exact⟨by first|rfl|(simp;done)|(simp [*];done),by repeat(first|exact qz.refl _|apply qz.step)⟩
        ·rw [if_neg c9] at H
         have c9b0 : decide ((bt a0 Aa)<32)=false:=decide_eq_false c9;clear c9;by_cases Af : (bt a0 Aa)=127
         ·rw [if_pos Af] at H
          have c11b0 : ((bt a0 Aa) == 127)=true:=beq_iff_eq.mpr Af;have c11b1 : ((bt a0 Aa) != 127)=false:=bne_eq_false_iff_eq.mpr Af;clear Af;obtain rfl:=Option.some.inj H;have p8 : 0≤(Aa : Int):=of_decide_eq_true (by first|(with_reducible assumption)|assumption);have q8 : Aa<(a0.size : Int):=of_decide_eq_true (by first|(with_reducible assumption)|assumption);have hx8:=Qj a0 Aa;replace p8:=eq_true p8;replace q8:=eq_true q8;have p10 : 0≤(Aa : Int):=of_decide_eq_true (by first|(with_reducible assumption)|assumption);have q10 : Aa<(a0.size : Int):=of_decide_eq_true (by first|(with_reducible assumption)|assumption);have hx10:=Qj a0 Aa;replace p10:=eq_true p10;replace q10:=eq_true q10;go_wp2
          go_ret
          exact⟨by first|rfl|(simp;done)|(simp [*];done),by repeat(first|exact qz.refl _|apply qz.step)⟩
         ·rw [if_neg Af] at H
          have c11b0 : ((bt a0 Aa) == 127)=false:=beq_eq_false_iff_ne.mpr Af;have c11b1 : ((bt a0 Aa) != 127)=true:=bne_iff_ne.mpr Af;have H':=qb.mk H;clear H;have p8 : 0≤(Aa : Int):=of_decide_eq_true (by first|(with_reducible assumption)|assumption);have q8 : Aa<(a0.size : Int):=of_decide_eq_true (by first|(with_reducible assumption)|assumption);have hx8:=Qj a0 Aa;replace p8:=eq_true p8;replace q8:=eq_true q8;have p10 : 0≤(Aa : Int):=of_decide_eq_true (by first|(with_reducible assumption)|assumption);have q10 : Aa<(a0.size : Int):=of_decide_eq_true (by first|(with_reducible assumption)|assumption);have hx10:=Qj a0 Aa;replace p10:=eq_true p10;replace q10:=eq_true q10;go_wp2
          go_roundg k2
          case measure=>have:=HJ1.out;have:=HK2.out;omega
          case rel=>exact⟨(wrap64 (Aa + 1)),(by first|rfl|(simp;done)|(simp [*];done)),H',⟨by have:=HJ1.out;have:=HK2.out;omega⟩,by repeat(first|exact qz.refl _|apply qz.step)⟩
       ·rw [if_neg c7] at H
        exact absurd H (by simp)
      ·rw [if_neg c6] at H
       have c6b0 : decide (Aa<(a0.size : Int))=false:=decide_eq_false c6;clear c6;obtain rfl:=Option.some.inj H;go_wp2
       go_ret
       exact⟨by first|rfl|(simp;done)|(simp [*];done),by repeat(first|exact qz.refl _|apply qz.step)⟩
end Go.Proofs.YtalpmbeddldfoaaDoor.PA
