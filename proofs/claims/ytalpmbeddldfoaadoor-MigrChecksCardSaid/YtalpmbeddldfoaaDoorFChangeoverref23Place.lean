import Derived.Test.YtalpmbeddldfoaaDoorF0
import Derived.Test.YtalpmbeddldfoaaDoorFChangeoverref05Size
section
namespace Go.Proofs.YtalpmbeddldfoaaDoor.PA
open Go.RowKit Go.Proofs.YtalpmbeddldfoaaDoor.Hand Go.Proofs.YtalpmbeddldfoaaDoorW.PrintWords Go.Proofs.YtalpmbeddldfoaaDoorW.PrintLast Go.Proofs.YtalpmbeddldfoaaDoorW.PrintMore
attribute [local go_sem] vW vV zc zb vG vF vU vT
attribute [local go_sem high] za zd ze
set_option linter.unusedVariables false
set_option linter.unusedSimpArgs false
def qP.l0 : Nat→ByteArray→Int→Option (Int)
 | 0,_,_=>none
 | k + 1,x0,x3=>if x3<(x0.size : Int) then((qi.f k x0 x3).bind fun bt101=>(if bt101.1=0 then(some x3) else(qP.l0 k x0 (wrap64 (x3 + bt101.1))))) else(some (-1))
def qP.f(k : Nat)(a0 : ByteArray) : Option (Int):=qP.l0 k a0 0
theorem qP.mono_l : ∀ k,(∀ y0 y1,qR (qP.l0 k y0 y1) (qP.l0 (k + 1) y0 y1))
 | 0=>fun _ _ r h=>by simp [qP.l0] at h
 | k + 1=>by
  have ih0:=qP.mono_l k
  ·intro y0 y1
   unfold qP.l0
   repeat' first
   | (with_reducible exact ih0 _ _)
   | (with_reducible exact qi.mono _ _ _)
   | (with_reducible exact qR.refl _)
   | (with_reducible exact qR.none _)
   | (with_reducible refine qR.ite ?_ ?_)
   | (with_reducible refine qR.bind ?_ (fun _=>?_))
   | exact ih0 _ _
   | exact qi.mono _ _ _
   | exact qR.none _
   | refine qR.ite ?_ ?_
   | refine qR.bind ?_ (fun _=>?_)
theorem qP.mono : ∀ a0 k,qR (qP.f k a0) (qP.f (k + 1) a0):=by
 intro a0 k;have ih0:=qP.mono_l k;unfold qP.f
 repeat' first
  | (with_reducible exact ih0 _ _)
  | (with_reducible exact qi.mono _ _ _)
  | (with_reducible exact qR.refl _)
  | (with_reducible exact qR.none _)
  | (with_reducible refine qR.ite ?_ ?_)
  | (with_reducible refine qR.bind ?_ (fun _=>?_))
  | exact ih0 _ _
  | exact qi.mono _ _ _
  | exact qR.none _
  | refine qR.ite ?_ ?_
  | refine qR.bind ?_ (fun _=>?_)
set_option maxHeartbeats 8000000 in
set_option maxRecDepth 100000 in
theorem qP.calls(k : Nat)(a0 : ByteArray)(r : Int)(w : World)(h : qP.f k a0=some r) :
 Calls Tryd.prog 19 #[.string a0] w fun e w'=>e = .returned (.int .i64 r)∧qz w w':=by
 have H : (qP.l0 k a0 0)=some r:=h;clear h;have H':=qb.mk H;clear H;go_enter Tryd.func19,Tryd.ntmps19
 go_wp2
 go_loopg [3] k (fun kq v3 w'=>∃ (Aa : Int),v3 = .int .i64 Aa∧qb (qP.l0 kq a0 Aa=some r)∧qb (kq≤k)∧qz w w')
 case atStart=>exact⟨(0),(by first|rfl|(simp;done)|(simp [*];done)),H',⟨Nat.le_refl _⟩,by repeat(first|exact qz.refl _|apply qz.step)⟩
 case round=>
  clear H';try clear c1
  obtain⟨Aa,rfl,HA,HK1,⟨m1,rfl⟩⟩:=hrel
  cases gk with
  | zero=>exact absurd HA.out (by simp [qP.l0])
  | succ k1=>
   have H:=HA.out;clear HA;simp only [qP.l0] at H;by_cases c2 : Aa<(a0.size : Int)
   ·rw [if_pos c2] at H
    have c2b0 : decide (Aa<(a0.size : Int))=true:=decide_eq_true c2;clear c2;replace H:=Option.bind_eq_some_iff.mp H;obtain⟨⟨Ab,t102⟩,A30,H⟩:=H;replace H : (if Ab=0 then(some Aa) else(qP.l0 k1 a0 (wrap64 (Aa + Ab))))=some r:=H;have A3:=qb.mk A30;clear A30;by_cases c4 : Ab=0
    ·rw [if_pos c4] at H
     have c4b0 : (Ab == 0)=true:=beq_iff_eq.mpr c4;have c4b1 : (Ab != 0)=false:=bne_eq_false_iff_eq.mpr c4;clear c4;obtain rfl:=Option.some.inj H;go_wp2_with (first|((with_reducible refine vR (f:=68) rfl ?_);refine zx (some 13) rfl rfl Tryd.func68 (by kernel_rfl) rfl #[.string a0,.int .i64 Aa] rfl (by(try simp only [List.map_toArray,List.map_cons,List.map_nil]);first|done|rfl|(simp only [List.length_drop,List.length_take];rfl)) ?_;(with_reducible refine(qi.calls k1 a0 Aa Ab t102 _ A3.out).mono ?_);rintro e w' ⟨rfl,⟨nd,rfl⟩⟩;refine⟨_,rfl,?_⟩))
     go_ret
     exact⟨by first|rfl|(simp;done)|(simp [*];done),by repeat(first|exact qz.refl _|apply qz.step)⟩
    ·rw [if_neg c4] at H
     have c4b0 : (Ab == 0)=false:=beq_eq_false_iff_ne.mpr c4;have c4b1 : (Ab != 0)=true:=bne_iff_ne.mpr c4;have H':=qb.mk H;clear H;go_wp2_with (first|((with_reducible refine vR (f:=68) rfl ?_);refine zx (some 13) rfl rfl Tryd.func68 (by kernel_rfl) rfl #[.string a0,.int .i64 Aa] rfl (by(try simp only [List.map_toArray,List.map_cons,List.map_nil]);first|done|rfl|(simp only [List.length_drop,List.length_take];rfl)) ?_;(with_reducible refine(qi.calls k1 a0 Aa Ab t102 _ A3.out).mono ?_);rintro e w' ⟨rfl,⟨nd,rfl⟩⟩;refine⟨_,rfl,?_⟩))
     go_roundg k1
     case measure=>have:=HK1.out;omega
     case rel=>exact⟨(wrap64 (Aa + Ab)),(by first|rfl|(simp;done)|(simp [*];done)),H',⟨by have:=HK1.out;omega⟩,by repeat(first|exact qz.refl _|apply qz.step)⟩
   ·rw [if_neg c2] at H
    have c2b0 : decide (Aa<(a0.size : Int))=false:=decide_eq_false c2;clear c2;obtain rfl:=Option.some.inj H;go_wp2
    go_ret
    exact⟨by first|rfl|(simp;done)|(simp [*];done),by repeat(first|exact qz.refl _|apply qz.step)⟩
end Go.Proofs.YtalpmbeddldfoaaDoor.PA
end
section
namespace Go.Proofs.YtalpmbeddldfoaaDoor.PA
open Go.RowKit Go.Proofs.YtalpmbeddldfoaaDoor.Hand Go.Proofs.YtalpmbeddldfoaaDoorW.PrintWords Go.Proofs.YtalpmbeddldfoaaDoorW.PrintLast Go.Proofs.YtalpmbeddldfoaaDoorW.PrintMore
attribute [local go_sem] vW vV zc zb vG vF vU vT
attribute [local go_sem high] za zd ze
set_option linter.unusedVariables false
set_option linter.unusedSimpArgs false
def vn.l0 : Nat→List (vP)→ByteArray→Int→Option (Int)
 | 0,_,_,_=>none
 | k + 1,x0,x1,x5=>if x5<(x0.length : Int) then(if 0≤x5 then(if((qj x0 x5).f0).toList=x1.toList then(some x5) else(vn.l0 k x0 x1 (wrap64 (x5 + 1)))) else(none)) else(some (-1))
def vn.f(k : Nat)(l0 : List (vP))(a1 : ByteArray) : Option (Int):=vn.l0 k l0 a1 0
theorem vn.mono_l : ∀ k,(∀ y0 y1 y2,qR (vn.l0 k y0 y1 y2) (vn.l0 (k + 1) y0 y1 y2))
 | 0=>fun _ _ _ r h=>by simp [vn.l0] at h
 | k + 1=>by
  have ih0:=vn.mono_l k
  ·intro y0 y1 y2
   unfold vn.l0
   repeat' first
   | (with_reducible exact ih0 _ _ _)
   | (with_reducible exact qR.refl _)
   | (with_reducible exact qR.none _)
   | (with_reducible refine qR.ite ?_ ?_)
   | (with_reducible refine qR.bind ?_ (fun _=>?_))
   | exact ih0 _ _ _
   | exact qR.none _
   | refine qR.ite ?_ ?_
   | refine qR.bind ?_ (fun _=>?_)
theorem vn.mono : ∀ a0 a1 k,qR (vn.f k a0 a1) (vn.f (k + 1) a0 a1):=by
 intro a0 a1 k;have ih0:=vn.mono_l k;unfold vn.f
 repeat' first
  | (with_reducible exact ih0 _ _ _)
  | (with_reducible exact qR.refl _)
  | (with_reducible exact qR.none _)
  | (with_reducible refine qR.ite ?_ ?_)
  | (with_reducible refine qR.bind ?_ (fun _=>?_))
  | exact ih0 _ _ _
  | exact qR.none _
  | refine qR.ite ?_ ?_
  | refine qR.bind ?_ (fun _=>?_)
set_option maxHeartbeats 8000000 in
set_option maxRecDepth 100000 in
theorem vn.calls(k : Nat)(A0 : Option Addr)(c0 : Nat)(l0 : List (vP))(a1 : ByteArray)(r : Int)(w : World)(hr0 : Kd.C zM w A0 l0.length l0)(hc0 : l0.length≤c0)(h : vn.f k l0 a1=some r) :
 Calls Tryd.prog 52 #[.slice A0 l0.length c0,.string a1] w fun e w'=>e = .returned (.int .i64 r)∧qz w w':=by
 have HR0:=qb.mk hr0;have HC0:=qb.mk hc0;clear hr0 hc0;have H : (vn.l0 k l0 a1 0)=some r:=h;clear h;have H':=qb.mk H;clear H;go_enter Tryd.func52,Tryd.ntmps52
 go_wp2
 go_loopg [5] k (fun kq v5 w'=>∃ (Aa : Int),v5 = .int .i64 Aa∧qb (vn.l0 kq l0 a1 Aa=some r)∧qb (kq≤k)∧qz w w')
 case atStart=>exact⟨(0),(by first|rfl|(simp;done)|(simp [*];done)),H',⟨Nat.le_refl _⟩,by repeat(first|exact qz.refl _|apply qz.step)⟩
 case round=>
  clear H';try clear p2
  obtain⟨Aa,rfl,HA,HK1,⟨m1,rfl⟩⟩:=hrel
  cases gk with
  | zero=>exact absurd HA.out (by simp [vn.l0])
  | succ k1=>
   have H:=HA.out;clear HA;simp only [vn.l0] at H;by_cases c3 : Aa<(l0.length : Int)
   ·rw [if_pos c3] at H
    have c3b0 : decide (Aa<(l0.length : Int))=true:=decide_eq_true c3;clear c3;by_cases c4 : 0≤Aa
    ·rw [if_pos c4] at H
     have c4b0 : decide (0≤Aa)=true:=decide_eq_true c4;clear c4;by_cases c5 : ((qj l0 Aa).f0).toList=a1.toList
     ·rw [if_pos c5] at H
      have c5b0 : (((qj l0 Aa).f0).toList == a1.toList)=true:=beq_iff_eq.mpr c5;have c5b1 : (((qj l0 Aa).f0).toList != a1.toList)=false:=bne_eq_false_iff_eq.mpr c5;clear c5;obtain rfl:=Option.some.inj H;have p525 : 0≤(Aa : Int):=of_decide_eq_true (by first|(with_reducible assumption)|assumption);have q525 : Aa<(l0.length : Int):=of_decide_eq_true (by first|(with_reducible assumption)|assumption);obtain⟨ad525,e525,Ab,Ac,Ad⟩:=vY HR0.out Aa p525 q525
      cases e525
      replace p525:=eq_true p525;replace q525:=eq_true q525;go_wp2
      go_ret
      exact⟨by first|rfl|(simp;done)|(simp [*];done),by repeat(first|exact qz.refl _|apply qz.step)⟩
     ·rw [if_neg c5] at H
      have c5b0 : (((qj l0 Aa).f0).toList == a1.toList)=false:=beq_eq_false_iff_ne.mpr c5;have c5b1 : (((qj l0 Aa).f0).toList != a1.toList)=true:=bne_iff_ne.mpr c5;have H':=qb.mk H;clear H;have p525 : 0≤(Aa : Int):=of_decide_eq_true (by first|(with_reducible assumption)|assumption);have q525 : Aa<(l0.length : Int):=of_decide_eq_true (by first|(with_reducible assumption)|assumption);obtain⟨ad525,e525,Ab,Ac,Ad⟩:=vY HR0.out Aa p525 q525
      cases e525
      replace p525:=eq_true p525;replace q525:=eq_true q525;go_wp2
      go_roundg k1
      case measure=>have:=HK1.out;omega
      case rel=>exact⟨(wrap64 (Aa + 1)),(by first|rfl|(simp;done)|(simp [*];done)),H',⟨by have:=HK1.out;omega⟩,by repeat(first|exact qz.refl _|apply qz.step)⟩
    ·rw [if_neg c4] at H
     exact absurd H (by simp)
   ·rw [if_neg c3] at H
    have c3b0 : decide (Aa<(l0.length : Int))=false:=decide_eq_false c3;clear c3;obtain rfl:=Option.some.inj H;go_wp2
    go_ret
    exact⟨by first|rfl|(simp;done)|(simp [*];done),by repeat(first|exact qz.refl _|apply qz.step)⟩
end Go.Proofs.YtalpmbeddldfoaaDoor.PA
end
