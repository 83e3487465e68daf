import Derived.Test.YtalpmbeddldfoaaDoorF0
import Derived.Test.YtalpmbeddldfoaaDoorFChangeoverref23Large
import Derived.Test.YtalpmbeddldfoaaDoorFKvtwoPlain
import Derived.Test.YtalpmbeddldfoaaDoorFKvtwoCheck
import Derived.Test.YtalpmbeddldfoaaDoorFChangeoverref23Check
import Derived.Test.YtalpmbeddldfoaaDoorFChangeoverlaw24Awake
import Derived.Test.YtalpmbeddldfoaaDoorRowT
namespace Go.Proofs.YtalpmbeddldfoaaDoor.PA
open Go.RowKit Go.Proofs.YtalpmbeddldfoaaDoor.Hand Go.Proofs.YtalpmbeddldfoaaDoorW.PrintWords Go.Proofs.YtalpmbeddldfoaaDoorW.PrintLast Go.Proofs.YtalpmbeddldfoaaDoorW.PrintMore
attribute [local go_sem] vQ vS zc za vH vJ vR vT   -- for this text's walks alone
attribute [local go_sem high] vZ zd zb
set_option linter.unusedVariables false
set_option linter.unusedSimpArgs false
mutual
def qp.j0 : Nat→List (vA)→Int→Option (Bool)
 | 0,_,_=>none
 | k + 1,x0,x3=>(vm.f k x0).bind fun Ab=>(qp.l0 k x0 x3 Ab 0)
def qp.l0 : Nat→List (vA)→Int→List (vA)→Int→Option (Bool)
 | 0,_,_,_,_=>none
 | k + 1,x0,x3,x4,x5=>if x5<(x4.length : Int) then(qp.j2 k x0 x3 x4 x5 (decide (x5<(x0.length : Int)))) else(qp.j2 k x0 x3 x4 x5 false)
def qp.j2 : Nat→List (vA)→Int→List (vA)→Int→Bool→Option (Bool)
 | 0,_,_,_,_,_=>none
 | k + 1,x0,x3,x4,x5,x23=>if x23=true then(if 0≤x5 then(if x5<(x4.length : Int) then(if x5<(x0.length : Int) then(if((qn x4 x5).f0).toList=((qn x0 x5).f0).toList then(if((qn x4 x5).f1).toList=((qn x0 x5).f1).toList then(if((qn x4 x5).f2)=0 then(qp.l0 k x0 x3 x4 (wrap64 (x5 + 1))) else(some false)) else(some false)) else(some false)) else(none)) else(none)) else(none)) else((vn.f k x0).bind fun Ak=>(if Ak=x3 then(if(x4.length : Int)=(x0.length : Int) then((qS.f k).bind fun Aq=>(some Aq)) else(some false)) else(some false)))
end
def qp.f(k : Nat)(l0 : List (vA)) : Option (Bool):=(qu.f k l0).bind fun AA=>(if AA=true then((qS.f k).bind fun Ap=>(some Ap)) else((qo.f k 2 l0).bind fun Ao=>(if Ao=true then(qp.j0 k l0 0) else(qp.j0 k l0 3))))
theorem qp.mono_l : ∀ k,(∀ y0 y1,qY (qp.j0 k y0 y1) (qp.j0 (k + 1) y0 y1))∧(∀ y0 y1 y2 y3,qY (qp.l0 k y0 y1 y2 y3) (qp.l0 (k + 1) y0 y1 y2 y3))∧(∀ y0 y1 y2 y3 y4,qY (qp.j2 k y0 y1 y2 y3 y4) (qp.j2 (k + 1) y0 y1 y2 y3 y4))
 | 0=>⟨fun _ _ r h=>by simp [qp.j0] at h,fun _ _ _ _ r h=>by simp [qp.l0] at h,fun _ _ _ _ _ r h=>by simp [qp.j2] at h⟩
 | k + 1=>by
  obtain⟨ih0,ih1,ih2⟩:=qp.mono_l k;refine⟨?_,?_,?_⟩
  ·intro y0 y1
   unfold qp.j0
   repeat' first
   | (with_reducible exact ih0 _ _)
   | (with_reducible exact ih1 _ _ _ _)
   | (with_reducible exact ih2 _ _ _ _ _)
   | (with_reducible exact qS.mono _)
   | (with_reducible exact qo.mono _ _ _)
   | (with_reducible exact qu.mono _ _)
   | (with_reducible exact vn.mono _ _)
   | (with_reducible exact vm.mono _ _)
   | (with_reducible exact qY.refl _)
   | (with_reducible exact qY.none _)
   | (with_reducible refine qY.ite ?_ ?_)
   | (with_reducible refine qY.bind ?_ (fun _=>?_))
   | exact ih0 _ _
   | exact ih1 _ _ _ _
   | exact ih2 _ _ _ _ _
   | exact qS.mono _
   | exact qo.mono _ _ _
   | exact qu.mono _ _
   | exact vn.mono _ _
   | exact vm.mono _ _
   | exact qY.none _
   | refine qY.ite ?_ ?_
   | refine qY.bind ?_ (fun _=>?_)
  ·intro y0 y1 y2 y3
   unfold qp.l0
   repeat' first
   | (with_reducible exact ih0 _ _)
   | (with_reducible exact ih1 _ _ _ _)
   | (with_reducible exact ih2 _ _ _ _ _)
   | (with_reducible exact qS.mono _)
   | (with_reducible exact qo.mono _ _ _)
   | (with_reducible exact qu.mono _ _)
   | (with_reducible exact vn.mono _ _)
   | (with_reducible exact vm.mono _ _)
   | (with_reducible exact qY.refl _)
   | (with_reducible exact qY.none _)
   | (with_reducible refine qY.ite ?_ ?_)
   | (with_reducible refine qY.bind ?_ (fun _=>?_))
   | exact ih0 _ _
   | exact ih1 _ _ _ _
   | exact ih2 _ _ _ _ _
   | exact qS.mono _
   | exact qo.mono _ _ _
   | exact qu.mono _ _
   | exact vn.mono _ _
   | exact vm.mono _ _
   | exact qY.none _
   | refine qY.ite ?_ ?_
   | refine qY.bind ?_ (fun _=>?_)
  ·intro y0 y1 y2 y3 y4
   unfold qp.j2
   repeat' first
   | (with_reducible exact ih0 _ _)
   | (with_reducible exact ih1 _ _ _ _)
   | (with_reducible exact ih2 _ _ _ _ _)
   | (with_reducible exact qS.mono _)
   | (with_reducible exact qo.mono _ _ _)
   | (with_reducible exact qu.mono _ _)
   | (with_reducible exact vn.mono _ _)
   | (with_reducible exact vm.mono _ _)
   | (with_reducible exact qY.refl _)
   | (with_reducible exact qY.none _)
   | (with_reducible refine qY.ite ?_ ?_)
   | (with_reducible refine qY.bind ?_ (fun _=>?_))
   | exact ih0 _ _
   | exact ih1 _ _ _ _
   | exact ih2 _ _ _ _ _
   | exact qS.mono _
   | exact qo.mono _ _ _
   | exact qu.mono _ _
   | exact vn.mono _ _
   | exact vm.mono _ _
   | exact qY.none _
   | refine qY.ite ?_ ?_
   | refine qY.bind ?_ (fun _=>?_)
theorem qp.mono : ∀ a0 k,qY (qp.f k a0) (qp.f (k + 1) a0):=by
 intro a0 k;obtain⟨ih0,ih1,ih2⟩:=qp.mono_l k;unfold qp.f
 repeat' first
  | (with_reducible exact ih0 _ _)
  | (with_reducible exact ih1 _ _ _ _)
  | (with_reducible exact ih2 _ _ _ _ _)
  | (with_reducible exact qS.mono _)
  | (with_reducible exact qo.mono _ _ _)
  | (with_reducible exact qu.mono _ _)
  | (with_reducible exact vn.mono _ _)
  | (with_reducible exact vm.mono _ _)
  | (with_reducible exact qY.refl _)
  | (with_reducible exact qY.none _)
  | (with_reducible refine qY.ite ?_ ?_)
  | (with_reducible refine qY.bind ?_ (fun _=>?_))
  | exact ih0 _ _
  | exact ih1 _ _ _ _
  | exact ih2 _ _ _ _ _
  | exact qS.mono _
  | exact qo.mono _ _ _
  | exact qu.mono _ _
  | exact vn.mono _ _
  | exact vm.mono _ _
  | exact qY.none _
  | refine qY.ite ?_ ?_
  | refine qY.bind ?_ (fun _=>?_)
set_option maxHeartbeats 8000000 in
set_option maxRecDepth 100000 in
theorem qp.calls(k : Nat)(A0 : Option Addr)(c0 : Nat)(l0 : List (vA))(r : Bool)(w : World)(hr0 : Kd.C zq w A0 l0.length l0)(hc0 : l0.length≤c0)(h : qp.f k l0=some r)(hT : Tabs w) :
 Calls Tryd.prog 11 #[.slice A0 l0.length c0] w fun e w'=>e = .returned (.bool r)∧Below w.heap.size w w':=by
 have HT:=qd.mk hT;clear hT;have HR0:=qd.mk hr0;have Ar:=qd.mk hc0;clear hr0 hc0;have HB:=qd.mk (Below.refl w.heap.size w);have H : ((qu.f k l0).bind fun AA=>(if AA=true then((qS.f k).bind fun Ap=>(some Ap)) else((qo.f k 2 l0).bind fun Ao=>(if Ao=true then(qp.j0 k l0 0) else(qp.j0 k l0 3)))))=some r:=h;clear h;replace H:=Option.bind_eq_some_iff.mp H;obtain⟨AA,A20,H⟩:=H;replace H : (if AA=true then((qS.f k).bind fun Ap=>(some Ap)) else((qo.f k 2 l0).bind fun Ao=>(if Ao=true then(qp.j0 k l0 0) else(qp.j0 k l0 3))))=some r:=H;have A2:=qd.mk A20;clear A20;by_cases c3 : AA=true
 ·subst c3
  have H1 : ((qS.f k).bind fun Ap=>(some Ap))=some r:=by rw [if_pos rfl] at H;exact H
  clear H;have H:=H1;clear H1;replace H:=Option.bind_eq_some_iff.mp H;obtain⟨Ap,A40,H⟩:=H;replace H : (some Ap)=some r:=H;have A4:=qd.mk A40;clear A40;obtain rfl:=Option.some.inj H;go_enter Tryd.func11,Tryd.ntmps11
  go_wp2_with (first|(go_at_call 46;(with_reducible refine(qu.calls k _ _ l0 true _ ?side1 ?side2 A2.out).mono ?_);(case side1=>repeat(first|exact HR0.out|(with_reducible refine Kd.vN ?_ _)|(with_reducible refine Kd.vP ?_ _)|(with_reducible refine Kd.vX ?_)));(case side2=>exact Ar.out);rintro e w' ⟨rfl,⟨nd,rfl⟩⟩;(try first|exact⟨rfl,_,World.drewN_drewN _ _ _⟩|exact⟨rfl,_,Eq.trans (World.drewN_drewN _ _ _) (congrArg (World.drewN _) (Nat.add_assoc _ _ _))⟩))|(go_at_call 53;(with_reducible refine(qS.calls k  Ap _ A4.out).mono ?_);rintro e w5 ⟨rfl,hb⟩;have Ai:=qd.mk (qt (by repeat(first|(with_reducible first|exact HB.out|apply qi|apply qe|apply qh)|exact HB.out)) hb);clear HB;have HB:=Ai;clear Ai;(try clear hb);(try clear hb2);(try clear hk);(try clear hi)))
  repeat(go_quiet (first|(go_at_call 46;(with_reducible refine(qu.calls k _ _ l0 true _ ?side1 ?side2 A2.out).mono ?_);(case side1=>repeat(first|exact HR0.out|(with_reducible refine Kd.vN ?_ _)|(with_reducible refine Kd.vP ?_ _)|(with_reducible refine Kd.vX ?_)));(case side2=>exact Ar.out);rintro e w' ⟨rfl,⟨nd,rfl⟩⟩;(try first|exact⟨rfl,_,World.drewN_drewN _ _ _⟩|exact⟨rfl,_,Eq.trans (World.drewN_drewN _ _ _) (congrArg (World.drewN _) (Nat.add_assoc _ _ _))⟩))|(go_at_call 53;(with_reducible refine(qS.calls k  Ap _ A4.out).mono ?_);rintro e w5 ⟨rfl,hb⟩;have Ai:=qd.mk (qt (by repeat(first|(with_reducible first|exact HB.out|apply qi|apply qe|apply qh)|exact HB.out)) hb);clear HB;have HB:=Ai;clear Ai;(try clear hb);(try clear hb2);(try clear hk);(try clear hi)));try go_wp2_with (first|(go_at_call 46;(with_reducible refine(qu.calls k _ _ l0 true _ ?side1 ?side2 A2.out).mono ?_);(case side1=>repeat(first|exact HR0.out|(with_reducible refine Kd.vN ?_ _)|(with_reducible refine Kd.vP ?_ _)|(with_reducible refine Kd.vX ?_)));(case side2=>exact Ar.out);rintro e w' ⟨rfl,⟨nd,rfl⟩⟩;(try first|exact⟨rfl,_,World.drewN_drewN _ _ _⟩|exact⟨rfl,_,Eq.trans (World.drewN_drewN _ _ _) (congrArg (World.drewN _) (Nat.add_assoc _ _ _))⟩))|(go_at_call 53;(with_reducible refine(qS.calls k  Ap _ A4.out).mono ?_);rintro e w5 ⟨rfl,hb⟩;have Ai:=qd.mk (qt (by repeat(first|(with_reducible first|exact HB.out|apply qi|apply qe|apply qh)|exact HB.out)) hb);clear HB;have HB:=Ai;clear Ai;(try clear hb);(try clear hb2);(try clear hk);(try clear hi))))
  go_ret
  exact⟨by first|rfl|(simp [qQ,qP] <;> rfl)|(simp [*,qQ,qP] <;> rfl),by repeat(first|(with_reducible first|exact HB.out|apply qi|apply qe|apply qh)|exact HB.out)⟩
 ·replace c3:=Bool.eq_false_iff.mpr c3
  subst c3;have H1 : ((qo.f k 2 l0).bind fun Ao=>(if Ao=true then(qp.j0 k l0 0) else(qp.j0 k l0 3)))=some r:=by rw [if_neg (show ¬ (false=true) by decide)] at H;exact H
  clear H;have H:=H1;clear H1;replace H:=Option.bind_eq_some_iff.mp H;obtain⟨Ao,A60,H⟩:=H;replace H : (if Ao=true then(qp.j0 k l0 0) else(qp.j0 k l0 3))=some r:=H;have A6:=qd.mk A60;clear A60;have HC7:=qd.mk H;clear H;go_enter Tryd.func11,Tryd.ntmps11
  go_upto_if 11 with (first|(go_at_call 46;(with_reducible refine(qu.calls k _ _ l0 false _ ?side1 ?side2 A2.out).mono ?_);(case side1=>repeat(first|exact HR0.out|(with_reducible refine Kd.vN ?_ _)|(with_reducible refine Kd.vP ?_ _)|(with_reducible refine Kd.vX ?_)));(case side2=>exact Ar.out);rintro e w' ⟨rfl,⟨nd,rfl⟩⟩;(try first|exact⟨rfl,_,World.drewN_drewN _ _ _⟩|exact⟨rfl,_,Eq.trans (World.drewN_drewN _ _ _) (congrArg (World.drewN _) (Nat.add_assoc _ _ _))⟩))|(go_at_call 48;(with_reducible refine(qo.calls k 2 _ _ l0 Ao _ ?side1 ?side2 A6.out).mono ?_);(case side1=>repeat(first|exact HR0.out|(with_reducible refine Kd.vN ?_ _)|(with_reducible refine Kd.vP ?_ _)|(with_reducible refine Kd.vX ?_)));(case side2=>exact Ar.out);rintro e w' ⟨rfl,⟨nd,rfl⟩⟩;(try first|exact⟨rfl,_,World.drewN_drewN _ _ _⟩|exact⟨rfl,_,Eq.trans (World.drewN_drewN _ _ _) (congrArg (World.drewN _) (Nat.add_assoc _ _ _))⟩)))
  repeat(go_quiet (first|(go_at_call 46;(with_reducible refine(qu.calls k _ _ l0 false _ ?side1 ?side2 A2.out).mono ?_);(case side1=>repeat(first|exact HR0.out|(with_reducible refine Kd.vN ?_ _)|(with_reducible refine Kd.vP ?_ _)|(with_reducible refine Kd.vX ?_)));(case side2=>exact Ar.out);rintro e w' ⟨rfl,⟨nd,rfl⟩⟩;(try first|exact⟨rfl,_,World.drewN_drewN _ _ _⟩|exact⟨rfl,_,Eq.trans (World.drewN_drewN _ _ _) (congrArg (World.drewN _) (Nat.add_assoc _ _ _))⟩))|(go_at_call 48;(with_reducible refine(qo.calls k 2 _ _ l0 Ao _ ?side1 ?side2 A6.out).mono ?_);(case side1=>repeat(first|exact HR0.out|(with_reducible refine Kd.vN ?_ _)|(with_reducible refine Kd.vP ?_ _)|(with_reducible refine Kd.vX ?_)));(case side2=>exact Ar.out);rintro e w' ⟨rfl,⟨nd,rfl⟩⟩;(try first|exact⟨rfl,_,World.drewN_drewN _ _ _⟩|exact⟨rfl,_,Eq.trans (World.drewN_drewN _ _ _) (congrArg (World.drewN _) (Nat.add_assoc _ _ _))⟩)));go_upto_if 11 with (first|(go_at_call 46;(with_reducible refine(qu.calls k _ _ l0 false _ ?side1 ?side2 A2.out).mono ?_);(case side1=>repeat(first|exact HR0.out|(with_reducible refine Kd.vN ?_ _)|(with_reducible refine Kd.vP ?_ _)|(with_reducible refine Kd.vX ?_)));(case side2=>exact Ar.out);rintro e w' ⟨rfl,⟨nd,rfl⟩⟩;(try first|exact⟨rfl,_,World.drewN_drewN _ _ _⟩|exact⟨rfl,_,Eq.trans (World.drewN_drewN _ _ _) (congrArg (World.drewN _) (Nat.add_assoc _ _ _))⟩))|(go_at_call 48;(with_reducible refine(qo.calls k 2 _ _ l0 Ao _ ?side1 ?side2 A6.out).mono ?_);(case side1=>repeat(first|exact HR0.out|(with_reducible refine Kd.vN ?_ _)|(with_reducible refine Kd.vP ?_ _)|(with_reducible refine Kd.vX ?_)));(case side2=>exact Ar.out);rintro e w' ⟨rfl,⟨nd,rfl⟩⟩;(try first|exact⟨rfl,_,World.drewN_drewN _ _ _⟩|exact⟨rfl,_,Eq.trans (World.drewN_drewN _ _ _) (congrArg (World.drewN _) (Nat.add_assoc _ _ _))⟩))))
  (try simp only [Act.put,qSa,qSb,qSc])
  go_cut [3] (fun v3 wc=>∃ (kq : Nat) (Am : Int),v3 = .int .i64 Am∧qd (qp.j0 kq l0 Am=some r)∧qd (kq≤k)∧qd (Below w.heap.size w wc))
  case first=>
   have H:=HC7.out;clear HC7;by_cases c8 : Ao=true
   ·subst c8
    have H1 : (qp.j0 k l0 0)=some r:=by rw [if_pos rfl] at H;exact H
    clear H;have H:=H1;clear H1;have H':=qd.mk H;clear H;go_wp2
    repeat(go_quiet (fail);try go_wp2)
    go_meet
    case rel=>exact⟨_,(0),(by first|rfl|(simp;done)|(simp [*];done)),H',⟨by first|omega|exact Nat.le_refl _⟩,⟨by repeat(first|(with_reducible first|exact HB.out|apply qi|apply qe|apply qh)|exact HB.out)⟩⟩
   ·replace c8:=Bool.eq_false_iff.mpr c8
    subst c8;have H1 : (qp.j0 k l0 3)=some r:=by rw [if_neg (show ¬ (false=true) by decide)] at H;exact H
    clear H;have H:=H1;clear H1;have H':=qd.mk H;clear H;go_wp2
    repeat(go_quiet (fail);try go_wp2)
    go_meet
    case rel=>exact⟨_,(3),(by first|rfl|(simp;done)|(simp [*];done)),H',⟨by first|omega|exact Nat.le_refl _⟩,⟨by repeat(first|(with_reducible first|exact HB.out|apply qi|apply qe|apply qh)|exact HB.out)⟩⟩
  case rest=>
   clear HC7;try clear c1
   try clear p2
   try clear c3
   try clear c8
   obtain⟨kq,Am,rfl,HA,HJ6,HB⟩:=hcut
   cases kq with
   | zero=>exact absurd HA.out (by simp [qp.j0])
   | succ kj6=>
    have H:=HA.out;clear HA;simp only [qp.j0] at H;replace H:=Option.bind_eq_some_iff.mp H;obtain⟨Ab,A90,H⟩:=H;replace H : (qp.l0 kj6 l0 Am Ab 0)=some r:=H;have A9:=qd.mk A90;clear A90;have H':=qd.mk H;clear H;go_wp2_with (first|(go_at_call 54;(with_reducible refine(vm.calls kj6 _ _ l0 Ab _ ?side1 ?side2 A9.out).mono ?_);(case side1=>repeat(first|exact(Kd.ze HR0.out HB.out)|(with_reducible refine Kd.vN ?_ _)|(with_reducible refine Kd.vP ?_ _)|(with_reducible refine Kd.vX ?_)));(case side2=>exact Ar.out);rintro e w10 ⟨AD,rfl,ho0,hb⟩;have Ai:=qd.mk (Kd.zj ho0 (qz (by repeat(first|(with_reducible first|exact HB.out|apply qi|apply qe|apply qh)|exact HB.out))));have Aj:=qd.mk (qt (by repeat(first|(with_reducible first|exact HB.out|apply qi|apply qe|apply qh)|exact HB.out)) hb);clear HB;have AB:=Ai;have HB:=Aj;clear Ai Aj;(try clear hb);(try clear hb2);(try clear hk);(try clear hi);(try clear ho0)))
    repeat(go_quiet (first|(go_at_call 54;(with_reducible refine(vm.calls kj6 _ _ l0 Ab _ ?side1 ?side2 A9.out).mono ?_);(case side1=>repeat(first|exact(Kd.ze HR0.out HB.out)|(with_reducible refine Kd.vN ?_ _)|(with_reducible refine Kd.vP ?_ _)|(with_reducible refine Kd.vX ?_)));(case side2=>exact Ar.out);rintro e w10 ⟨AD,rfl,ho0,hb⟩;have Ai:=qd.mk (Kd.zj ho0 (qz (by repeat(first|(with_reducible first|exact HB.out|apply qi|apply qe|apply qh)|exact HB.out))));have Aj:=qd.mk (qt (by repeat(first|(with_reducible first|exact HB.out|apply qi|apply qe|apply qh)|exact HB.out)) hb);clear HB;have AB:=Ai;have HB:=Aj;clear Ai Aj;(try clear hb);(try clear hb2);(try clear hk);(try clear hi);(try clear ho0)));try go_wp2_with (first|(go_at_call 54;(with_reducible refine(vm.calls kj6 _ _ l0 Ab _ ?side1 ?side2 A9.out).mono ?_);(case side1=>repeat(first|exact(Kd.ze HR0.out HB.out)|(with_reducible refine Kd.vN ?_ _)|(with_reducible refine Kd.vP ?_ _)|(with_reducible refine Kd.vX ?_)));(case side2=>exact Ar.out);rintro e w10 ⟨AD,rfl,ho0,hb⟩;have Ai:=qd.mk (Kd.zj ho0 (qz (by repeat(first|(with_reducible first|exact HB.out|apply qi|apply qe|apply qh)|exact HB.out))));have Aj:=qd.mk (qt (by repeat(first|(with_reducible first|exact HB.out|apply qi|apply qe|apply qh)|exact HB.out)) hb);clear HB;have AB:=Ai;have HB:=Aj;clear Ai Aj;(try clear hb);(try clear hb2);(try clear hk);(try clear hi);(try clear ho0))))
    go_loopg [5] kj6 (fun kq v5 w'=>∃ (Aa : Int),v5 = .int .i64 Aa∧qd (qp.l0 kq l0 Am Ab Aa=some r)∧qd (kq≤kj6)∧qd (Kd.R zq 50 w' w.heap.size (fun _=>True) AD Ab)∧qd (Below w.heap.size w w'))
    case atStart=>exact⟨(0),(by first|rfl|(simp;done)|(simp [*];done)),H',⟨Nat.le_refl _⟩,⟨by(with_reducible repeat(first|apply Kd.qJ|apply Kd.qK|apply Kd.qN));exact AB.out⟩,⟨by repeat(first|(with_reducible first|exact HB.out|apply qi|apply qe|apply qh)|exact HB.out)⟩⟩
    case round=>
     clear H';try clear c1
     try clear p2
     try clear c3
     try clear c8
     try clear p2
     obtain⟨Aa,rfl,HA,HK2,HO_4,HB⟩:=hrel
     cases gk with
     | zero=>exact absurd HA.out (by simp [qp.l0])
     | succ k2=>
      have H:=HA.out;clear HA;simp only [qp.l0] at H;have AJ:=qd.mk H;clear H;go_upto_region 8 with (fail)
      repeat(go_quiet (fail);go_upto_region 8 with (fail))
      go_cut [23] (fun v23 wc=>∃ (kq : Nat) (At : Bool),v23 = .bool At∧qd (qp.j2 kq l0 Am Ab Aa At=some r)∧qd (kq≤k2)∧qd (Kd.R zq 50 wc w.heap.size (fun _=>True) AD Ab)∧qd (Below w.heap.size w wc))
      case first=>
       have H:=AJ.out;clear AJ;by_cases AK : Aa<(Ab.length : Int)
       ·rw [if_pos AK] at H
        have As : decide (Aa<(Ab.length : Int))=true:=decide_eq_true AK;clear AK
        (first|rw [As]|(simp only [qy,qA];rw [As])|skip)
        have H':=qd.mk H;clear H;obtain⟨Ao13,co13,eo13⟩:=Kd.vK HO_4.out;subst eo13;go_wp2
        repeat(go_quiet (fail);try go_wp2)
        go_meet
        case rel=>exact⟨_,(decide (Aa<(l0.length : Int))),(by first|rfl|(simp;done)|(simp [*];done)),H',⟨by have:=HJ6.out;have:=HK2.out;first|omega|exact Nat.le_refl _⟩,⟨by(with_reducible repeat(first|apply Kd.qJ|apply Kd.qK|apply Kd.qN));exact HO_4.out⟩,⟨by repeat(first|(with_reducible first|exact HB.out|apply qi|apply qe|apply qh)|exact HB.out)⟩⟩
       ·rw [if_neg AK] at H
        have As : decide (Aa<(Ab.length : Int))=false:=decide_eq_false AK;clear AK
        (first|rw [As]|(simp only [qy,qA];rw [As])|skip)
        have H':=qd.mk H;clear H;obtain⟨Ao14,co14,eo14⟩:=Kd.vK HO_4.out;subst eo14;go_wp2
        repeat(go_quiet (fail);try go_wp2)
        go_meet
        case rel=>exact⟨_,(false),(by first|rfl|(simp;done)|(simp [*];done)),H',⟨by have:=HJ6.out;have:=HK2.out;first|omega|exact Nat.le_refl _⟩,⟨by(with_reducible repeat(first|apply Kd.qJ|apply Kd.qK|apply Kd.qN));exact HO_4.out⟩,⟨by repeat(first|(with_reducible first|exact HB.out|apply qi|apply qe|apply qh)|exact HB.out)⟩⟩
      case rest=>
       clear AJ;try clear c1
       try clear p2
       try clear c3
       try clear c8
       try clear c11
       try clear AK
       try clear As
       try clear p2
       obtain⟨kq,At,rfl,HA,HJ10,HO_4,HB⟩:=hcut
       cases kq with
       | zero=>exact absurd HA.out (by simp [qp.j2])
       | succ kj10=>
        have H:=HA.out;clear HA;simp only [qp.j2] at H;by_cases c15 : At=true
        ·subst c15
         have H1 : (if 0≤Aa then(if Aa<(Ab.length : Int) then(if Aa<(l0.length : Int) then(if((qn Ab Aa).f0).toList=((qn l0 Aa).f0).toList then(if((qn Ab Aa).f1).toList=((qn l0 Aa).f1).toList then(if((qn Ab Aa).f2)=0 then(qp.l0 kj10 l0 Am Ab (wrap64 (Aa + 1))) else(some false)) else(some false)) else(some false)) else(none)) else(none)) else(none))=some r:=by rw [if_pos rfl] at H;exact H
         clear H;have H:=H1;clear H1;by_cases c16 : 0≤Aa
         ·rw [if_pos c16] at H
          have c16b0 : decide (0≤Aa)=true:=decide_eq_true c16;clear c16;by_cases c17 : Aa<(Ab.length : Int)
          ·rw [if_pos c17] at H
           have c17b0 : decide (Aa<(Ab.length : Int))=true:=decide_eq_true c17;clear c17;by_cases c18 : Aa<(l0.length : Int)
           ·rw [if_pos c18] at H
            have c18b0 : decide (Aa<(l0.length : Int))=true:=decide_eq_true c18;clear c18;by_cases AL : ((qn Ab Aa).f0).toList=((qn l0 Aa).f0).toList
            ·rw [if_pos AL] at H
             have c19b0 : (((qn Ab Aa).f0).toList == ((qn l0 Aa).f0).toList)=true:=beq_iff_eq.mpr AL;have c19b1 : (((qn Ab Aa).f0).toList != ((qn l0 Aa).f0).toList)=false:=bne_eq_false_iff_eq.mpr AL;clear AL;by_cases AM : ((qn Ab Aa).f1).toList=((qn l0 Aa).f1).toList
             ·rw [if_pos AM] at H
              have c20b0 : (((qn Ab Aa).f1).toList == ((qn l0 Aa).f1).toList)=true:=beq_iff_eq.mpr AM;have c20b1 : (((qn Ab Aa).f1).toList != ((qn l0 Aa).f1).toList)=false:=bne_eq_false_iff_eq.mpr AM;clear AM;by_cases AP : ((qn Ab Aa).f2)=0
              ·rw [if_pos AP] at H
               have c21b0 : (((qn Ab Aa).f2) == 0)=true:=beq_iff_eq.mpr AP;have c21b1 : (((qn Ab Aa).f2) != 0)=false:=bne_eq_false_iff_eq.mpr AP;clear AP;have H':=qd.mk H;clear H;obtain⟨Ao22,co22,eo22⟩:=Kd.vK HO_4.out;subst eo22;have p627 : 0≤(Aa : Int):=of_decide_eq_true (by first|(with_reducible assumption)|assumption);have q627 : Aa<(Ab.length : Int):=of_decide_eq_true (by first|(with_reducible assumption)|assumption);obtain⟨ad627,e627,Au,Av,Aw⟩:=vz (Kd.vu HO_4.out).2.2 Aa p627 q627
               cases e627
               replace p627:=eq_true p627;replace q627:=eq_true q627;have p628 : 0≤(Aa : Int):=of_decide_eq_true (by first|(with_reducible assumption)|assumption);have q628 : Aa<(l0.length : Int):=of_decide_eq_true (by first|(with_reducible assumption)|assumption);obtain⟨ad628,e628,Ac,Ad,Ae⟩:=vz HR0.out Aa p628 q628
               cases e628
               replace Ac:=(HB.out.cell (World.block_lt_of_cell? w _ Ac)).trans Ac;replace Ad:=(HB.out.cell (World.block_lt_of_cell? w _ Ad)).trans Ad;replace Ae:=(HB.out.cell (World.block_lt_of_cell? w _ Ae)).trans Ae;replace p628:=eq_true p628;replace q628:=eq_true q628;have p629 : 0≤(Aa : Int):=of_decide_eq_true (by first|(with_reducible assumption)|assumption);have q629 : Aa<(Ab.length : Int):=of_decide_eq_true (by first|(with_reducible assumption)|assumption);obtain⟨ad629,e629,Ax,Ay,Az⟩:=vz (Kd.vu HO_4.out).2.2 Aa p629 q629;obtain rfl : ad627=ad629:=(by injection e629);replace p629:=eq_true p629;replace q629:=eq_true q629;have p630 : 0≤(Aa : Int):=of_decide_eq_true (by first|(with_reducible assumption)|assumption);have q630 : Aa<(l0.length : Int):=of_decide_eq_true (by first|(with_reducible assumption)|assumption);obtain⟨ad630,e630,Af,Ag,Ah⟩:=vz HR0.out Aa p630 q630;obtain rfl : ad628=ad630:=(by injection e630);replace Af:=(HB.out.cell (World.block_lt_of_cell? w _ Af)).trans Af;replace Ag:=(HB.out.cell (World.block_lt_of_cell? w _ Ag)).trans Ag;replace Ah:=(HB.out.cell (World.block_lt_of_cell? w _ Ah)).trans Ah;replace p630:=eq_true p630;replace q630:=eq_true q630;have p631 : 0≤(Aa : Int):=of_decide_eq_true (by first|(with_reducible assumption)|assumption);have q631 : Aa<(Ab.length : Int):=of_decide_eq_true (by first|(with_reducible assumption)|assumption);obtain⟨ad631,e631,AE,AF,AG⟩:=vz (Kd.vu HO_4.out).2.2 Aa p631 q631;obtain rfl : ad627=ad631:=(by injection e631);replace p631:=eq_true p631;replace q631:=eq_true q631;go_wp2
               repeat(go_quiet (fail);try go_wp2)
               go_roundg kj10
               case measure=>have:=HJ6.out;have:=HK2.out;have:=HJ10.out;omega
               case rel=>exact⟨(wrap64 (Aa + 1)),(by first|rfl|(simp;done)|(simp [*];done)),H',⟨by have:=HJ6.out;have:=HK2.out;have:=HJ10.out;omega⟩,⟨by(with_reducible repeat(first|apply Kd.qJ|apply Kd.qK|apply Kd.qN));exact HO_4.out⟩,⟨by repeat(first|(with_reducible first|exact HB.out|apply qi|apply qe|apply qh)|exact HB.out)⟩⟩
              ·rw [if_neg AP] at H
               have c21b0 : (((qn Ab Aa).f2) == 0)=false:=beq_eq_false_iff_ne.mpr AP;have c21b1 : (((qn Ab Aa).f2) != 0)=true:=bne_iff_ne.mpr AP;obtain rfl:=Option.some.inj H;obtain⟨Ao23,co23,eo23⟩:=Kd.vK HO_4.out;subst eo23;have p627 : 0≤(Aa : Int):=of_decide_eq_true (by first|(with_reducible assumption)|assumption);have q627 : Aa<(Ab.length : Int):=of_decide_eq_true (by first|(with_reducible assumption)|assumption);obtain⟨ad627,e627,Au,Av,Aw⟩:=vz (Kd.vu HO_4.out).2.2 Aa p627 q627
               cases e627
               replace p627:=eq_true p627;replace q627:=eq_true q627;have p628 : 0≤(Aa : Int):=of_decide_eq_true (by first|(with_reducible assumption)|assumption);have q628 : Aa<(l0.length : Int):=of_decide_eq_true (by first|(with_reducible assumption)|assumption);obtain⟨ad628,e628,Ac,Ad,Ae⟩:=vz HR0.out Aa p628 q628
               cases e628
               replace Ac:=(HB.out.cell (World.block_lt_of_cell? w _ Ac)).trans Ac;replace Ad:=(HB.out.cell (World.block_lt_of_cell? w _ Ad)).trans Ad;replace Ae:=(HB.out.cell (World.block_lt_of_cell? w _ Ae)).trans Ae;replace p628:=eq_true p628;replace q628:=eq_true q628;have p629 : 0≤(Aa : Int):=of_decide_eq_true (by first|(with_reducible assumption)|assumption);have q629 : Aa<(Ab.length : Int):=of_decide_eq_true (by first|(with_reducible assumption)|assumption);obtain⟨ad629,e629,Ax,Ay,Az⟩:=vz (Kd.vu HO_4.out).2.2 Aa p629 q629;obtain rfl : ad627=ad629:=(by injection e629);replace p629:=eq_true p629;replace q629:=eq_true q629;have p630 : 0≤(Aa : Int):=of_decide_eq_true (by first|(with_reducible assumption)|assumption);have q630 : Aa<(l0.length : Int):=of_decide_eq_true (by first|(with_reducible assumption)|assumption);obtain⟨ad630,e630,Af,Ag,Ah⟩:=vz HR0.out Aa p630 q630;obtain rfl : ad628=ad630:=(by injection e630);replace Af:=(HB.out.cell (World.block_lt_of_cell? w _ Af)).trans Af;replace Ag:=(HB.out.cell (World.block_lt_of_cell? w _ Ag)).trans Ag;replace Ah:=(HB.out.cell (World.block_lt_of_cell? w _ Ah)).trans Ah;replace p630:=eq_true p630;replace q630:=eq_true q630;have p631 : 0≤(Aa : Int):=of_decide_eq_true (by first|(with_reducible assumption)|assumption);have q631 : Aa<(Ab.length : Int):=of_decide_eq_true (by first|(with_reducible assumption)|assumption);obtain⟨ad631,e631,AE,AF,AG⟩:=vz (Kd.vu HO_4.out).2.2 Aa p631 q631;obtain rfl : ad627=ad631:=(by injection e631);replace p631:=eq_true p631;replace q631:=eq_true q631;go_wp2
               repeat(go_quiet (fail);try go_wp2)
               go_ret
               exact⟨by first|rfl|(simp [qQ,qP] <;> rfl)|(simp [*,qQ,qP] <;> rfl),by repeat(first|(with_reducible first|exact HB.out|apply qi|apply qe|apply qh)|exact HB.out)⟩
             ·rw [if_neg AM] at H
              have c20b0 : (((qn Ab Aa).f1).toList == ((qn l0 Aa).f1).toList)=false:=beq_eq_false_iff_ne.mpr AM;have c20b1 : (((qn Ab Aa).f1).toList != ((qn l0 Aa).f1).toList)=true:=bne_iff_ne.mpr AM;obtain rfl:=Option.some.inj H;obtain⟨Ao24,co24,eo24⟩:=Kd.vK HO_4.out;subst eo24;have p627 : 0≤(Aa : Int):=of_decide_eq_true (by first|(with_reducible assumption)|assumption);have q627 : Aa<(Ab.length : Int):=of_decide_eq_true (by first|(with_reducible assumption)|assumption);obtain⟨ad627,e627,Au,Av,Aw⟩:=vz (Kd.vu HO_4.out).2.2 Aa p627 q627
              cases e627
              replace p627:=eq_true p627;replace q627:=eq_true q627;have p628 : 0≤(Aa : Int):=of_decide_eq_true (by first|(with_reducible assumption)|assumption);have q628 : Aa<(l0.length : Int):=of_decide_eq_true (by first|(with_reducible assumption)|assumption);obtain⟨ad628,e628,Ac,Ad,Ae⟩:=vz HR0.out Aa p628 q628
              cases e628
              replace Ac:=(HB.out.cell (World.block_lt_of_cell? w _ Ac)).trans Ac;replace Ad:=(HB.out.cell (World.block_lt_of_cell? w _ Ad)).trans Ad;replace Ae:=(HB.out.cell (World.block_lt_of_cell? w _ Ae)).trans Ae;replace p628:=eq_true p628;replace q628:=eq_true q628;have p629 : 0≤(Aa : Int):=of_decide_eq_true (by first|(with_reducible assumption)|assumption);have q629 : Aa<(Ab.length : Int):=of_decide_eq_true (by first|(with_reducible assumption)|assumption);obtain⟨ad629,e629,Ax,Ay,Az⟩:=vz (Kd.vu HO_4.out).2.2 Aa p629 q629;obtain rfl : ad627=ad629:=(by injection e629);replace p629:=eq_true p629;replace q629:=eq_true q629;have p630 : 0≤(Aa : Int):=of_decide_eq_true (by first|(with_reducible assumption)|assumption);have q630 : Aa<(l0.length : Int):=of_decide_eq_true (by first|(with_reducible assumption)|assumption);obtain⟨ad630,e630,Af,Ag,Ah⟩:=vz HR0.out Aa p630 q630;obtain rfl : ad628=ad630:=(by injection e630);replace Af:=(HB.out.cell (World.block_lt_of_cell? w _ Af)).trans Af;replace Ag:=(HB.out.cell (World.block_lt_of_cell? w _ Ag)).trans Ag;replace Ah:=(HB.out.cell (World.block_lt_of_cell? w _ Ah)).trans Ah;replace p630:=eq_true p630;replace q630:=eq_true q630;go_wp2
              repeat(go_quiet (fail);try go_wp2)
              go_ret
              exact⟨by first|rfl|(simp [qQ,qP] <;> rfl)|(simp [*,qQ,qP] <;> rfl),by repeat(first|(with_reducible first|exact HB.out|apply qi|apply qe|apply qh)|exact HB.out)⟩
            ·rw [if_neg AL] at H
             have c19b0 : (((qn Ab Aa).f0).toList == ((qn l0 Aa).f0).toList)=false:=beq_eq_false_iff_ne.mpr AL;have c19b1 : (((qn Ab Aa).f0).toList != ((qn l0 Aa).f0).toList)=true:=bne_iff_ne.mpr AL;obtain rfl:=Option.some.inj H;obtain⟨Ao25,co25,eo25⟩:=Kd.vK HO_4.out;subst eo25;have p627 : 0≤(Aa : Int):=of_decide_eq_true (by first|(with_reducible assumption)|assumption);have q627 : Aa<(Ab.length : Int):=of_decide_eq_true (by first|(with_reducible assumption)|assumption);obtain⟨ad627,e627,Au,Av,Aw⟩:=vz (Kd.vu HO_4.out).2.2 Aa p627 q627
             cases e627
             replace p627:=eq_true p627;replace q627:=eq_true q627;have p628 : 0≤(Aa : Int):=of_decide_eq_true (by first|(with_reducible assumption)|assumption);have q628 : Aa<(l0.length : Int):=of_decide_eq_true (by first|(with_reducible assumption)|assumption);obtain⟨ad628,e628,Ac,Ad,Ae⟩:=vz HR0.out Aa p628 q628
             cases e628
             replace Ac:=(HB.out.cell (World.block_lt_of_cell? w _ Ac)).trans Ac;replace Ad:=(HB.out.cell (World.block_lt_of_cell? w _ Ad)).trans Ad;replace Ae:=(HB.out.cell (World.block_lt_of_cell? w _ Ae)).trans Ae;replace p628:=eq_true p628;replace q628:=eq_true q628;go_wp2
             repeat(go_quiet (fail);try go_wp2)
             go_ret
             exact⟨by first|rfl|(simp [qQ,qP] <;> rfl)|(simp [*,qQ,qP] <;> rfl),by repeat(first|(with_reducible first|exact HB.out|apply qi|apply qe|apply qh)|exact HB.out)⟩
           ·rw [if_neg c18] at H
            exact absurd H (by simp)
          ·rw [if_neg c17] at H
           exact absurd H (by simp)
         ·rw [if_neg c16] at H
          exact absurd H (by simp)
        ·replace c15:=Bool.eq_false_iff.mpr c15
         subst c15;have H1 : ((vn.f kj10 l0).bind fun Ak=>(if Ak=Am then(if(Ab.length : Int)=(l0.length : Int) then((qS.f kj10).bind fun Aq=>(some Aq)) else(some false)) else(some false)))=some r:=by rw [if_neg (show ¬ (false=true) by decide)] at H;exact H
         clear H;have H:=H1;clear H1;replace H:=Option.bind_eq_some_iff.mp H;obtain⟨Ak,A260,H⟩:=H;replace H : (if Ak=Am then(if(Ab.length : Int)=(l0.length : Int) then((qS.f kj10).bind fun Aq=>(some Aq)) else(some false)) else(some false))=some r:=H;have AH:=qd.mk A260;clear A260;by_cases AQ : Ak=Am
         ·rw [if_pos AQ] at H
          have c27b0 : (Ak == Am)=true:=beq_iff_eq.mpr AQ;have c27b1 : (Ak != Am)=false:=bne_eq_false_iff_eq.mpr AQ;clear AQ;by_cases AC : (Ab.length : Int)=(l0.length : Int)
          ·rw [if_pos AC] at H
           have c28b0 : ((Ab.length : Int) == (l0.length : Int))=true:=beq_iff_eq.mpr AC;have c28b1 : ((Ab.length : Int) != (l0.length : Int))=false:=bne_eq_false_iff_eq.mpr AC;have c28b2 : (Ab.length == l0.length)=true:=by first|simpa using AC|(simp at AC ⊢;omega)
           clear AC;replace H:=Option.bind_eq_some_iff.mp H;obtain⟨Aq,A290,H⟩:=H;replace H : (some Aq)=some r:=H;have A29:=qd.mk A290;clear A290;obtain rfl:=Option.some.inj H;go_wp2_with (first|(go_at_call 55;(with_reducible refine(vn.calls kj10 _ _ l0 Ak _ ?side1 ?side2 AH.out (HT.out.go (by repeat(first|(with_reducible first|exact HB.out|apply qi|apply qe|apply qh)|exact HB.out)))).mono ?_);(case side1=>repeat(first|exact(Kd.ze HR0.out HB.out)|(with_reducible refine Kd.vN ?_ _)|(with_reducible refine Kd.vP ?_ _)|(with_reducible refine Kd.vX ?_)));(case side2=>exact Ar.out);rintro e w30 ⟨rfl,hb⟩;have Ai:=qd.mk (Kd.vr (by(with_reducible repeat(first|apply Kd.qJ|apply Kd.qK|apply Kd.qN));exact HO_4.out) hb);have Aj:=qd.mk (qt (by repeat(first|(with_reducible first|exact HB.out|apply qi|apply qe|apply qh)|exact HB.out)) hb);clear HO_4;clear HB;have HO_4:=Ai;have HB:=Aj;clear Ai Aj;(try clear hb);(try clear hb2);(try clear hk);(try clear hi);obtain⟨Ao31,co31,eo31⟩:=Kd.vK HO_4.out;subst eo31)|(go_at_call 53;(with_reducible refine(qS.calls kj10  Aq _ A29.out).mono ?_);rintro e w32 ⟨rfl,hb⟩;have Ai:=qd.mk (Kd.vr (by(with_reducible repeat(first|apply Kd.qJ|apply Kd.qK|apply Kd.qN));exact HO_4.out) hb);have Aj:=qd.mk (qt (by repeat(first|(with_reducible first|exact HB.out|apply qi|apply qe|apply qh)|exact HB.out)) hb);clear HO_4;clear HB;have HO_4:=Ai;have HB:=Aj;clear Ai Aj;(try clear hb);(try clear hb2);(try clear hk);(try clear hi)))
           repeat(go_quiet (first|(go_at_call 55;(with_reducible refine(vn.calls kj10 _ _ l0 Ak _ ?side1 ?side2 AH.out (HT.out.go (by repeat(first|(with_reducible first|exact HB.out|apply qi|apply qe|apply qh)|exact HB.out)))).mono ?_);(case side1=>repeat(first|exact(Kd.ze HR0.out HB.out)|(with_reducible refine Kd.vN ?_ _)|(with_reducible refine Kd.vP ?_ _)|(with_reducible refine Kd.vX ?_)));(case side2=>exact Ar.out);rintro e w30 ⟨rfl,hb⟩;have Ai:=qd.mk (Kd.vr (by(with_reducible repeat(first|apply Kd.qJ|apply Kd.qK|apply Kd.qN));exact HO_4.out) hb);have Aj:=qd.mk (qt (by repeat(first|(with_reducible first|exact HB.out|apply qi|apply qe|apply qh)|exact HB.out)) hb);clear HO_4;clear HB;have HO_4:=Ai;have HB:=Aj;clear Ai Aj;(try clear hb);(try clear hb2);(try clear hk);(try clear hi);obtain⟨Ao31,co31,eo31⟩:=Kd.vK HO_4.out;subst eo31)|(go_at_call 53;(with_reducible refine(qS.calls kj10  Aq _ A29.out).mono ?_);rintro e w32 ⟨rfl,hb⟩;have Ai:=qd.mk (Kd.vr (by(with_reducible repeat(first|apply Kd.qJ|apply Kd.qK|apply Kd.qN));exact HO_4.out) hb);have Aj:=qd.mk (qt (by repeat(first|(with_reducible first|exact HB.out|apply qi|apply qe|apply qh)|exact HB.out)) hb);clear HO_4;clear HB;have HO_4:=Ai;have HB:=Aj;clear Ai Aj;(try clear hb);(try clear hb2);(try clear hk);(try clear hi)));try go_wp2_with (first|(go_at_call 55;(with_reducible refine(vn.calls kj10 _ _ l0 Ak _ ?side1 ?side2 AH.out (HT.out.go (by repeat(first|(with_reducible first|exact HB.out|apply qi|apply qe|apply qh)|exact HB.out)))).mono ?_);(case side1=>repeat(first|exact(Kd.ze HR0.out HB.out)|(with_reducible refine Kd.vN ?_ _)|(with_reducible refine Kd.vP ?_ _)|(with_reducible refine Kd.vX ?_)));(case side2=>exact Ar.out);rintro e w30 ⟨rfl,hb⟩;have Ai:=qd.mk (Kd.vr (by(with_reducible repeat(first|apply Kd.qJ|apply Kd.qK|apply Kd.qN));exact HO_4.out) hb);have Aj:=qd.mk (qt (by repeat(first|(with_reducible first|exact HB.out|apply qi|apply qe|apply qh)|exact HB.out)) hb);clear HO_4;clear HB;have HO_4:=Ai;have HB:=Aj;clear Ai Aj;(try clear hb);(try clear hb2);(try clear hk);(try clear hi);obtain⟨Ao31,co31,eo31⟩:=Kd.vK HO_4.out;subst eo31)|(go_at_call 53;(with_reducible refine(qS.calls kj10  Aq _ A29.out).mono ?_);rintro e w32 ⟨rfl,hb⟩;have Ai:=qd.mk (Kd.vr (by(with_reducible repeat(first|apply Kd.qJ|apply Kd.qK|apply Kd.qN));exact HO_4.out) hb);have Aj:=qd.mk (qt (by repeat(first|(with_reducible first|exact HB.out|apply qi|apply qe|apply qh)|exact HB.out)) hb);clear HO_4;clear HB;have HO_4:=Ai;have HB:=Aj;clear Ai Aj;(try clear hb);(try clear hb2);(try clear hk);(try clear hi))))
           go_ret
           exact⟨by first|rfl|(simp [qQ,qP] <;> rfl)|(simp [*,qQ,qP] <;> rfl),by repeat(first|(with_reducible first|exact HB.out|apply qi|apply qe|apply qh)|exact HB.out)⟩
          ·rw [if_neg AC] at H
           have c28b0 : ((Ab.length : Int) == (l0.length : Int))=false:=beq_eq_false_iff_ne.mpr AC;have c28b1 : ((Ab.length : Int) != (l0.length : Int))=true:=bne_iff_ne.mpr AC;have c28b2 : (Ab.length == l0.length)=false:=by first|simpa using AC|(simp at AC ⊢;omega)
           obtain rfl:=Option.some.inj H;go_wp2_with (first|(go_at_call 55;(with_reducible refine(vn.calls kj10 _ _ l0 Ak _ ?side1 ?side2 AH.out (HT.out.go (by repeat(first|(with_reducible first|exact HB.out|apply qi|apply qe|apply qh)|exact HB.out)))).mono ?_);(case side1=>repeat(first|exact(Kd.ze HR0.out HB.out)|(with_reducible refine Kd.vN ?_ _)|(with_reducible refine Kd.vP ?_ _)|(with_reducible refine Kd.vX ?_)));(case side2=>exact Ar.out);rintro e w33 ⟨rfl,hb⟩;have Ai:=qd.mk (Kd.vr (by(with_reducible repeat(first|apply Kd.qJ|apply Kd.qK|apply Kd.qN));exact HO_4.out) hb);have Aj:=qd.mk (qt (by repeat(first|(with_reducible first|exact HB.out|apply qi|apply qe|apply qh)|exact HB.out)) hb);clear HO_4;clear HB;have HO_4:=Ai;have HB:=Aj;clear Ai Aj;(try clear hb);(try clear hb2);(try clear hk);(try clear hi);obtain⟨Ao34,co34,eo34⟩:=Kd.vK HO_4.out;subst eo34))
           repeat(go_quiet (first|(go_at_call 55;(with_reducible refine(vn.calls kj10 _ _ l0 Ak _ ?side1 ?side2 AH.out (HT.out.go (by repeat(first|(with_reducible first|exact HB.out|apply qi|apply qe|apply qh)|exact HB.out)))).mono ?_);(case side1=>repeat(first|exact(Kd.ze HR0.out HB.out)|(with_reducible refine Kd.vN ?_ _)|(with_reducible refine Kd.vP ?_ _)|(with_reducible refine Kd.vX ?_)));(case side2=>exact Ar.out);rintro e w33 ⟨rfl,hb⟩;have Ai:=qd.mk (Kd.vr (by(with_reducible repeat(first|apply Kd.qJ|apply Kd.qK|apply Kd.qN));exact HO_4.out) hb);have Aj:=qd.mk (qt (by repeat(first|(with_reducible first|exact HB.out|apply qi|apply qe|apply qh)|exact HB.out)) hb);clear HO_4;clear HB;have HO_4:=Ai;have HB:=Aj;clear Ai Aj;(try clear hb);(try clear hb2);(try clear hk);(try clear hi);obtain⟨Ao34,co34,eo34⟩:=Kd.vK HO_4.out;subst eo34));try go_wp2_with (first|(go_at_call 55;(with_reducible refine(vn.calls kj10 _ _ l0 Ak _ ?side1 ?side2 AH.out (HT.out.go (by repeat(first|(with_reducible first|exact HB.out|apply qi|apply qe|apply qh)|exact HB.out)))).mono ?_);(case side1=>repeat(first|exact(Kd.ze HR0.out HB.out)|(with_reducible refine Kd.vN ?_ _)|(with_reducible refine Kd.vP ?_ _)|(with_reducible refine Kd.vX ?_)));(case side2=>exact Ar.out);rintro e w33 ⟨rfl,hb⟩;have Ai:=qd.mk (Kd.vr (by(with_reducible repeat(first|apply Kd.qJ|apply Kd.qK|apply Kd.qN));exact HO_4.out) hb);have Aj:=qd.mk (qt (by repeat(first|(with_reducible first|exact HB.out|apply qi|apply qe|apply qh)|exact HB.out)) hb);clear HO_4;clear HB;have HO_4:=Ai;have HB:=Aj;clear Ai Aj;(try clear hb);(try clear hb2);(try clear hk);(try clear hi);obtain⟨Ao34,co34,eo34⟩:=Kd.vK HO_4.out;subst eo34)))
           go_ret
           exact⟨by first|rfl|(simp [qQ,qP] <;> rfl)|(simp [*,qQ,qP] <;> rfl),by repeat(first|(with_reducible first|exact HB.out|apply qi|apply qe|apply qh)|exact HB.out)⟩
         ·rw [if_neg AQ] at H
          have c27b0 : (Ak == Am)=false:=beq_eq_false_iff_ne.mpr AQ;have c27b1 : (Ak != Am)=true:=bne_iff_ne.mpr AQ;obtain rfl:=Option.some.inj H;go_wp2_with (first|(go_at_call 55;(with_reducible refine(vn.calls kj10 _ _ l0 Ak _ ?side1 ?side2 AH.out (HT.out.go (by repeat(first|(with_reducible first|exact HB.out|apply qi|apply qe|apply qh)|exact HB.out)))).mono ?_);(case side1=>repeat(first|exact(Kd.ze HR0.out HB.out)|(with_reducible refine Kd.vN ?_ _)|(with_reducible refine Kd.vP ?_ _)|(with_reducible refine Kd.vX ?_)));(case side2=>exact Ar.out);rintro e w35 ⟨rfl,hb⟩;have Ai:=qd.mk (Kd.vr (by(with_reducible repeat(first|apply Kd.qJ|apply Kd.qK|apply Kd.qN));exact HO_4.out) hb);have Aj:=qd.mk (qt (by repeat(first|(with_reducible first|exact HB.out|apply qi|apply qe|apply qh)|exact HB.out)) hb);clear HO_4;clear HB;have HO_4:=Ai;have HB:=Aj;clear Ai Aj;(try clear hb);(try clear hb2);(try clear hk);(try clear hi)))
          repeat(go_quiet (first|(go_at_call 55;(with_reducible refine(vn.calls kj10 _ _ l0 Ak _ ?side1 ?side2 AH.out (HT.out.go (by repeat(first|(with_reducible first|exact HB.out|apply qi|apply qe|apply qh)|exact HB.out)))).mono ?_);(case side1=>repeat(first|exact(Kd.ze HR0.out HB.out)|(with_reducible refine Kd.vN ?_ _)|(with_reducible refine Kd.vP ?_ _)|(with_reducible refine Kd.vX ?_)));(case side2=>exact Ar.out);rintro e w35 ⟨rfl,hb⟩;have Ai:=qd.mk (Kd.vr (by(with_reducible repeat(first|apply Kd.qJ|apply Kd.qK|apply Kd.qN));exact HO_4.out) hb);have Aj:=qd.mk (qt (by repeat(first|(with_reducible first|exact HB.out|apply qi|apply qe|apply qh)|exact HB.out)) hb);clear HO_4;clear HB;have HO_4:=Ai;have HB:=Aj;clear Ai Aj;(try clear hb);(try clear hb2);(try clear hk);(try clear hi)));try go_wp2_with (first|(go_at_call 55;(with_reducible refine(vn.calls kj10 _ _ l0 Ak _ ?side1 ?side2 AH.out (HT.out.go (by repeat(first|(with_reducible first|exact HB.out|apply qi|apply qe|apply qh)|exact HB.out)))).mono ?_);(case side1=>repeat(first|exact(Kd.ze HR0.out HB.out)|(with_reducible refine Kd.vN ?_ _)|(with_reducible refine Kd.vP ?_ _)|(with_reducible refine Kd.vX ?_)));(case side2=>exact Ar.out);rintro e w35 ⟨rfl,hb⟩;have Ai:=qd.mk (Kd.vr (by(with_reducible repeat(first|apply Kd.qJ|apply Kd.qK|apply Kd.qN));exact HO_4.out) hb);have Aj:=qd.mk (qt (by repeat(first|(with_reducible first|exact HB.out|apply qi|apply qe|apply qh)|exact HB.out)) hb);clear HO_4;clear HB;have HO_4:=Ai;have HB:=Aj;clear Ai Aj;(try clear hb);(try clear hb2);(try clear hk);(try clear hi))))
          go_ret
          exact⟨by first|rfl|(simp [qQ,qP] <;> rfl)|(simp [*,qQ,qP] <;> rfl),by repeat(first|(with_reducible first|exact HB.out|apply qi|apply qe|apply qh)|exact HB.out)⟩
end Go.Proofs.YtalpmbeddldfoaaDoor.PA
