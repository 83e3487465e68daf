import Derived.Test.YtalpmbeddldfoaaDoorF0
import Derived.Test.YtalpmbeddldfoaaDoorFApiPair76
import Derived.Test.YtalpmbeddldfoaaDoorFChangeoverref23Large
import Derived.Test.YtalpmbeddldfoaaDoorHandD
section
namespace Go.Proofs.YtalpmbeddldfoaaDoor.PA
open Go.RowKit Go.Proofs.YtalpmbeddldfoaaDoor.Hand Go.Proofs.YtalpmbeddldfoaaDoorW.PrintWords Go.Proofs.YtalpmbeddldfoaaDoorW.PrintLast Go.Proofs.YtalpmbeddldfoaaDoorW.PrintMore
attribute [local go_sem] vW vV zc zb vG vF vU vT
attribute [local go_sem high] za zd ze
set_option linter.unusedVariables false
set_option linter.unusedSimpArgs false
def vr.f(k : Nat)(a0_0 : Int)(l0_1 : List (vP))(l0_2 : List (zo)) : Option (Bool):=(qE.f k l0_2).bind fun Ag=>(if Ag=true then(some true) else((qD.f k l0_1).bind fun Ac=>(some Ac)))
theorem vr.mono : ∀ a0 a1 a2 k,qR (vr.f k a0 a1 a2) (vr.f (k + 1) a0 a1 a2):=by
 intro a0 a1 a2 k;unfold vr.f
 repeat' first
  | (with_reducible exact qE.mono _ _)
  | (with_reducible exact qD.mono _ _)
  | (with_reducible exact qR.refl _)
  | (with_reducible exact qR.none _)
  | (with_reducible refine qR.ite ?_ ?_)
  | (with_reducible refine qR.bind ?_ (fun _=>?_))
  | exact qE.mono _ _
  | exact qD.mono _ _
  | exact qR.none _
  | refine qR.ite ?_ ?_
  | refine qR.bind ?_ (fun _=>?_)
set_option maxHeartbeats 8000000 in
set_option maxRecDepth 100000 in
theorem vr.calls(k : Nat)(a0_0 : Int)(Ah : Option Addr)(Ai : Nat)(l0_1 : List (vP))(Ad : Option Addr)(Ae : Nat)(l0_2 : List (zo))(r : Bool)(w : World)(hr0_1 : Kd.C zM w Ah l0_1.length l0_1)(hc0_1 : l0_1.length≤Ai)(hr0_2 : Kd.C jW w Ad l0_2.length l0_2)(hc0_2 : l0_2.length≤Ae)(h : vr.f k a0_0 l0_1 l0_2=some r) :
 Calls Tryd.prog 32 #[.agg #[.int .i64 a0_0,.slice Ah l0_1.length Ai,.slice Ad l0_2.length Ae]] w fun e w'=>e = .returned (.bool r)∧Below w.heap.size w w':=by
 have hu35:=Tryd.underlying35;have HR0_1:=qb.mk hr0_1;have HC0_1:=qb.mk hc0_1;clear hr0_1 hc0_1;have HR0_2:=qb.mk hr0_2;have Aj:=qb.mk hc0_2;clear hr0_2 hc0_2;have HB:=qb.mk (Below.refl w.heap.size w);have H : ((qE.f k l0_2).bind fun Ag=>(if Ag=true then(some true) else((qD.f k l0_1).bind fun Ac=>(some Ac))))=some r:=h;clear h;replace H:=Option.bind_eq_some_iff.mp H;obtain⟨Ag,A20,H⟩:=H;replace H : (if Ag=true then(some true) else((qD.f k l0_1).bind fun Ac=>(some Ac)))=some r:=H;have A2:=qb.mk A20;clear A20;by_cases c3 : Ag=true
 ·subst c3
  have H1 : (some true)=some r:=by rw [if_pos rfl] at H;exact H
  clear H;have H:=H1;clear H1;obtain rfl:=Option.some.inj H;go_enter Tryd.func32,Tryd.ntmps32
  go_wp2_with (first|((with_reducible refine vE (N:=1) rfl ?_);refine vD ?hg (N:=1) ?hd (cs:=#[.int .i64 a0_0,.slice Ah l0_1.length Ai,.slice Ad l0_2.length Ae]) (t:=35) ?hr ?_;(case hd=>rfl);(case hg=>rfl);(case hr=>first|(go_simp;done)|(go_simp;rfl));intro Ab hg w4 hbox hb;have n0_:=qb.mk (qB (by repeat(first|(with_reducible first|exact HB.out|apply qd|apply qa|apply qc)|exact HB.out)) hb);have n1_:=qb.mk (hbox);have n2_:=qb.mk ((by rw [hg];exact(qG (by repeat(first|(with_reducible first|exact HB.out|apply qd|apply qa|apply qc)|exact HB.out))) : w.heap.size≤Ab));have n3_:=qb.mk ((by rw [hg];exact(qG (by repeat(first|(with_reducible first|exact HB.out|apply qd|apply qa|apply qc)|exact HB.out))) : w.heap.size≤Ab));clear HB;have HB:=n0_;have Aa:=n1_;have GW168:=n2_;have Af:=n3_;clear n0_ n1_ n2_ n3_;clear hb hbox hg;have hcz5_0 : w4.cell? ⟨Ab,0,none⟩=some (.int .i64 a0_0):=(qe Aa.out 0).trans rfl;have hcz5_1 : w4.cell? ⟨Ab,1,none⟩=some (.slice Ah l0_1.length Ai):=(qe Aa.out 1).trans rfl;have hcz5_2 : w4.cell? ⟨Ab,2,none⟩=some (.slice Ad l0_2.length Ae):=(qe Aa.out 2).trans rfl;have hfz5_0:=qg Aa.out 0;have hfz5_1:=qg Aa.out 1;have hfz5_2:=qg Aa.out 2)|((with_reducible refine vR (f:=42) rfl ?_);refine zx (some 5) rfl rfl Tryd.func42 (by kernel_rfl) rfl #[.slice Ad l0_2.length Ae] rfl (by(try simp only [List.map_toArray,List.map_cons,List.map_nil]);first|done|rfl|(simp only [List.length_drop,List.length_take];rfl)) ?_;(with_reducible refine(qE.calls k _ _ l0_2 true _ ?side1 ?side2 A2.out).mono ?_);(case side1=>repeat(first|exact(Kd.vk HR0_2.out HB.out)|(with_reducible refine Kd.qS ?_ _)|(with_reducible refine Kd.qU ?_ _)|(with_reducible refine Kd.vq ?_)));(case side2=>exact Aj.out);rintro e w' ⟨rfl,⟨nd,rfl⟩⟩;refine⟨_,rfl,?_⟩))
  go_ret
  exact⟨by first|rfl|(simp [qK,qL] <;> rfl)|(simp [*,qK,qL] <;> rfl),by repeat(first|(with_reducible first|exact HB.out|apply qd|apply qa|apply qc|refine qh ?_ Af.out)|exact HB.out)⟩
 ·replace c3:=Bool.eq_false_iff.mpr c3
  subst c3;have H1 : ((qD.f k l0_1).bind fun Ac=>(some Ac))=some r:=by rw [if_neg (show ¬ (false=true) by decide)] at H;exact H
  clear H;have H:=H1;clear H1;replace H:=Option.bind_eq_some_iff.mp H;obtain⟨Ac,A60,H⟩:=H;replace H : (some Ac)=some r:=H;have A6:=qb.mk A60;clear A60;obtain rfl:=Option.some.inj H;go_enter Tryd.func32,Tryd.ntmps32
  go_wp2_with (first|((with_reducible refine vE (N:=1) rfl ?_);refine vD ?hg (N:=1) ?hd (cs:=#[.int .i64 a0_0,.slice Ah l0_1.length Ai,.slice Ad l0_2.length Ae]) (t:=35) ?hr ?_;(case hd=>rfl);(case hg=>rfl);(case hr=>first|(go_simp;done)|(go_simp;rfl));intro Ab hg w7 hbox hb;have n0_:=qb.mk (qB (by repeat(first|(with_reducible first|exact HB.out|apply qd|apply qa|apply qc)|exact HB.out)) hb);have n1_:=qb.mk (hbox);have n2_:=qb.mk ((by rw [hg];exact(qG (by repeat(first|(with_reducible first|exact HB.out|apply qd|apply qa|apply qc)|exact HB.out))) : w.heap.size≤Ab));have n3_:=qb.mk ((by rw [hg];exact(qG (by repeat(first|(with_reducible first|exact HB.out|apply qd|apply qa|apply qc)|exact HB.out))) : w.heap.size≤Ab));clear HB;have HB:=n0_;have Aa:=n1_;have GW168:=n2_;have Af:=n3_;clear n0_ n1_ n2_ n3_;clear hb hbox hg;have hcz8_0 : w7.cell? ⟨Ab,0,none⟩=some (.int .i64 a0_0):=(qe Aa.out 0).trans rfl;have hcz8_1 : w7.cell? ⟨Ab,1,none⟩=some (.slice Ah l0_1.length Ai):=(qe Aa.out 1).trans rfl;have hcz8_2 : w7.cell? ⟨Ab,2,none⟩=some (.slice Ad l0_2.length Ae):=(qe Aa.out 2).trans rfl;have hfz8_0:=qg Aa.out 0;have hfz8_1:=qg Aa.out 1;have hfz8_2:=qg Aa.out 2)|((with_reducible refine vR (f:=42) rfl ?_);refine zx (some 5) rfl rfl Tryd.func42 (by kernel_rfl) rfl #[.slice Ad l0_2.length Ae] rfl (by(try simp only [List.map_toArray,List.map_cons,List.map_nil]);first|done|rfl|(simp only [List.length_drop,List.length_take];rfl)) ?_;(with_reducible refine(qE.calls k _ _ l0_2 false _ ?side1 ?side2 A2.out).mono ?_);(case side1=>repeat(first|exact(Kd.vk HR0_2.out HB.out)|(with_reducible refine Kd.qS ?_ _)|(with_reducible refine Kd.qU ?_ _)|(with_reducible refine Kd.vq ?_)));(case side2=>exact Aj.out);rintro e w' ⟨rfl,⟨nd,rfl⟩⟩;refine⟨_,rfl,?_⟩)|(go_at_call 46;(with_reducible refine(qD.calls k _ _ l0_1 Ac _ ?side1 ?side2 A6.out).mono ?_);(case side1=>repeat(first|exact(Kd.vk HR0_1.out (by repeat(first|(with_reducible first|exact HB.out|apply qd|apply qa|apply qc|refine qh ?_ Af.out)|exact HB.out)))|(with_reducible refine Kd.qS ?_ _)|(with_reducible refine Kd.qU ?_ _)|(with_reducible refine Kd.vq ?_)));(case side2=>exact HC0_1.out);rintro e w' ⟨rfl,⟨nd,rfl⟩⟩))
  go_ret
  exact⟨by first|rfl|(simp [qK,qL] <;> rfl)|(simp [*,qK,qL] <;> rfl),by repeat(first|(with_reducible first|exact HB.out|apply qd|apply qa|apply qc|refine qh ?_ Af.out)|exact HB.out)⟩
end Go.Proofs.YtalpmbeddldfoaaDoor.PA
end
section
namespace Go.Proofs.YtalpmbeddldfoaaDoor.PA
open Go.RowKit Go.Proofs.YtalpmbeddldfoaaDoor.Hand Go.Proofs.YtalpmbeddldfoaaDoorW.PrintWords Go.Proofs.YtalpmbeddldfoaaDoorW.PrintLast Go.Proofs.YtalpmbeddldfoaaDoorW.PrintMore
attribute [local go_sem] vW vV zc zb vG vF vU vT
attribute [local go_sem high] za zd ze
set_option linter.unusedVariables false
set_option linter.unusedSimpArgs false
attribute [local go_sem high] eqA50
def qQ.l0 : Nat→List (vP)→List (vP)→Int→Option (Bool)
 | 0,_,_,_=>none
 | k + 1,x0,x1,x5=>if x5<(x0.length : Int) then(if 0≤x5 then(if x5<(x1.length : Int) then(if(!((((qj x0 x5).f0).toList) == (((qj x1 x5).f0).toList)) || (!((((qj x0 x5).f1).toList) == (((qj x1 x5).f1).toList)) || (!(((qj x0 x5).f2) == ((qj x1 x5).f2)))))=true then(some false) else(qQ.l0 k x0 x1 (wrap64 (x5 + 1)))) else(none)) else(none)) else(some true)
def qQ.f(k : Nat)(l0 : List (vP))(l1 : List (vP)) : Option (Bool):=if(l0.length : Int)=(l1.length : Int) then(qQ.l0 k l0 l1 0) else(some false)
theorem qQ.mono_l : ∀ k,(∀ y0 y1 y2,qR (qQ.l0 k y0 y1 y2) (qQ.l0 (k + 1) y0 y1 y2))
 | 0=>fun _ _ _ r h=>by simp [qQ.l0] at h
 | k + 1=>by
  have ih0:=qQ.mono_l k
  ·intro y0 y1 y2
   unfold qQ.l0
   repeat' first
   | (with_reducible exact ih0 _ _ _)
   | (with_reducible exact qR.refl _)
   | (with_reducible exact qR.none _)
   | (with_reducible refine qR.ite ?_ ?_)
   | (with_reducible refine qR.bind ?_ (fun _=>?_))
   | exact ih0 _ _ _
   | exact qR.none _
   | refine qR.ite ?_ ?_
   | refine qR.bind ?_ (fun _=>?_)
theorem qQ.mono : ∀ a0 a1 k,qR (qQ.f k a0 a1) (qQ.f (k + 1) a0 a1):=by
 intro a0 a1 k;have ih0:=qQ.mono_l k;unfold qQ.f
 repeat' first
  | (with_reducible exact ih0 _ _ _)
  | (with_reducible exact qR.refl _)
  | (with_reducible exact qR.none _)
  | (with_reducible refine qR.ite ?_ ?_)
  | (with_reducible refine qR.bind ?_ (fun _=>?_))
  | exact ih0 _ _ _
  | exact qR.none _
  | refine qR.ite ?_ ?_
  | refine qR.bind ?_ (fun _=>?_)
set_option maxHeartbeats 8000000 in
set_option maxRecDepth 100000 in
theorem qQ.calls(k : Nat)(A0 : Option Addr)(c0 : Nat)(l0 : List (vP))(A1 : Option Addr)(c1 : Nat)(l1 : List (vP))(r : Bool)(w : World)(hr0 : Kd.C zM w A0 l0.length l0)(hc0 : l0.length≤c0)(hr1 : Kd.C zM w A1 l1.length l1)(hc1 : l1.length≤c1)(h : qQ.f k l0 l1=some r) :
 Calls Tryd.prog 72 #[.slice A0 l0.length c0,.slice A1 l1.length c1] w fun e w'=>e = .returned (.bool r)∧qz w w':=by
 have hu50:=Tryd.underlying50;have HR0:=qb.mk hr0;have HC0:=qb.mk hc0;clear hr0 hc0;have HR1:=qb.mk hr1;have HC1:=qb.mk hc1;clear hr1 hc1;have H : (if(l0.length : Int)=(l1.length : Int) then(qQ.l0 k l0 l1 0) else(some false))=some r:=h;clear h;by_cases c3 : (l0.length : Int)=(l1.length : Int)
 ·rw [if_pos c3] at H
  have c3b0 : ((l0.length : Int) == (l1.length : Int))=true:=beq_iff_eq.mpr c3;have c3b1 : ((l0.length : Int) != (l1.length : Int))=false:=bne_eq_false_iff_eq.mpr c3;have c3b2 : (l0.length == l1.length)=true:=by first|simpa using c3|(simp at c3 ⊢;omega)
  clear c3;have H':=qb.mk H;clear H;go_enter Tryd.func72,Tryd.ntmps72
  go_wp2
  repeat(go_quiet (fail);try go_wp2)
  go_loopg [5] k (fun kq v5 w'=>∃ (Aa : Int),v5 = .int .i64 Aa∧qb (qQ.l0 kq l0 l1 Aa=some r)∧qb (kq≤k)∧qz w w')
  case atStart=>exact⟨(0),(by first|rfl|(simp;done)|(simp [*];done)),H',⟨Nat.le_refl _⟩,by repeat(first|exact qz.refl _|apply qz.step)⟩
  case round=>
   clear H';try clear c1
   try clear p2
   try clear c3
   try clear c3b0
   try clear c3b1
   try clear c3b2
   obtain⟨Aa,rfl,HA,HK1,⟨m1,rfl⟩⟩:=hrel
   cases gk with
   | zero=>exact absurd HA.out (by simp [qQ.l0])
   | succ k1=>
    have H:=HA.out;clear HA;simp only [qQ.l0] at H;by_cases c4 : Aa<(l0.length : Int)
    ·rw [if_pos c4] at H
     have c4b0 : decide (Aa<(l0.length : Int))=true:=decide_eq_true c4;clear c4;by_cases c5 : 0≤Aa
     ·rw [if_pos c5] at H
      have c5b0 : decide (0≤Aa)=true:=decide_eq_true c5;clear c5;by_cases c6 : Aa<(l1.length : Int)
      ·rw [if_pos c6] at H
       have c6b0 : decide (Aa<(l1.length : Int))=true:=decide_eq_true c6;clear c6;by_cases c7 : (!((((qj l0 Aa).f0).toList) == (((qj l1 Aa).f0).toList)) || (!((((qj l0 Aa).f1).toList) == (((qj l1 Aa).f1).toList)) || (!(((qj l0 Aa).f2) == ((qj l1 Aa).f2)))))=true
       ·rw [if_pos c7] at H
        have c7b0 : (!((((qj l0 Aa).f0).toList) == (((qj l1 Aa).f0).toList)) || (!((((qj l0 Aa).f1).toList) == (((qj l1 Aa).f1).toList)) || (!(((qj l0 Aa).f2) == ((qj l1 Aa).f2)))))=true:=c7;clear c7;obtain rfl:=Option.some.inj H;have p273 : 0≤(Aa : Int):=of_decide_eq_true (by first|(with_reducible assumption)|assumption);have q273 : Aa<(l0.length : Int):=of_decide_eq_true (by first|(with_reducible assumption)|assumption);obtain⟨ad273,e273,Ab,Ac,Ad⟩:=vY HR0.out Aa p273 q273
        cases e273
        replace p273:=eq_true p273;replace q273:=eq_true q273;have p274 : 0≤(Aa : Int):=of_decide_eq_true (by first|(with_reducible assumption)|assumption);have q274 : Aa<(l1.length : Int):=of_decide_eq_true (by first|(with_reducible assumption)|assumption);obtain⟨ad274,e274,Ae,Af,Ag⟩:=vY HR1.out Aa p274 q274
        cases e274
        replace p274:=eq_true p274;replace q274:=eq_true q274;go_wp2
        repeat(go_quiet (fail);try go_wp2)
        go_ret
        exact⟨by first|rfl|(simp;done)|(simp [*];done),by repeat(first|exact qz.refl _|apply qz.step)⟩
       ·rw [if_neg c7] at H
        have c7b0 : (!((((qj l0 Aa).f0).toList) == (((qj l1 Aa).f0).toList)) || (!((((qj l0 Aa).f1).toList) == (((qj l1 Aa).f1).toList)) || (!(((qj l0 Aa).f2) == ((qj l1 Aa).f2)))))=false:=by simpa using c7
        clear c7;have H':=qb.mk H;clear H;have p273 : 0≤(Aa : Int):=of_decide_eq_true (by first|(with_reducible assumption)|assumption);have q273 : Aa<(l0.length : Int):=of_decide_eq_true (by first|(with_reducible assumption)|assumption);obtain⟨ad273,e273,Ab,Ac,Ad⟩:=vY HR0.out Aa p273 q273
        cases e273
        replace p273:=eq_true p273;replace q273:=eq_true q273;have p274 : 0≤(Aa : Int):=of_decide_eq_true (by first|(with_reducible assumption)|assumption);have q274 : Aa<(l1.length : Int):=of_decide_eq_true (by first|(with_reducible assumption)|assumption);obtain⟨ad274,e274,Ae,Af,Ag⟩:=vY HR1.out Aa p274 q274
        cases e274
        replace p274:=eq_true p274;replace q274:=eq_true q274;go_wp2
        repeat(go_quiet (fail);try go_wp2)
        go_roundg k1
        case measure=>have:=HK1.out;omega
        case rel=>exact⟨(wrap64 (Aa + 1)),(by first|rfl|(simp;done)|(simp [*];done)),H',⟨by have:=HK1.out;omega⟩,by repeat(first|exact qz.refl _|apply qz.step)⟩
      ·rw [if_neg c6] at H
       exact absurd H (by simp)
     ·rw [if_neg c5] at H
      exact absurd H (by simp)
    ·rw [if_neg c4] at H
     have c4b0 : decide (Aa<(l0.length : Int))=false:=decide_eq_false c4;clear c4;obtain rfl:=Option.some.inj H;go_wp2
     repeat(go_quiet (fail);try go_wp2)
     go_ret
     exact⟨by first|rfl|(simp;done)|(simp [*];done),by repeat(first|exact qz.refl _|apply qz.step)⟩
 ·rw [if_neg c3] at H
  have c3b0 : ((l0.length : Int) == (l1.length : Int))=false:=beq_eq_false_iff_ne.mpr c3;have c3b1 : ((l0.length : Int) != (l1.length : Int))=true:=bne_iff_ne.mpr c3;have c3b2 : (l0.length == l1.length)=false:=by first|simpa using c3|(simp at c3 ⊢;omega)
  obtain rfl:=Option.some.inj H;go_enter Tryd.func72,Tryd.ntmps72
  go_wp2
  repeat(go_quiet (fail);try go_wp2)
  go_ret
  exact⟨by first|rfl|(simp;done)|(simp [*];done),by repeat(first|exact qz.refl _|apply qz.step)⟩
end Go.Proofs.YtalpmbeddldfoaaDoor.PA
end
