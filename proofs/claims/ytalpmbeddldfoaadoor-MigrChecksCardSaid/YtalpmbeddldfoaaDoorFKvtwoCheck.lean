import Derived.Test.YtalpmbeddldfoaaDoorF0
import Derived.Test.YtalpmbeddldfoaaDoorHandB
import Derived.Test.YtalpmbeddldfoaaDoorHandS
import Derived.Test.YtalpmbeddldfoaaDoorFKvoneCheck
import Derived.Test.YtalpmbeddldfoaaDoorFKvtwoPlain
import Derived.Test.YtalpmbeddldfoaaDoorFRunesVal
import Derived.Test.YtalpmbeddldfoaaDoorHandD
section
namespace Go.Proofs.YtalpmbeddldfoaaDoor.PA
open Go.RowKit Go.Proofs.YtalpmbeddldfoaaDoor.Hand Go.Proofs.YtalpmbeddldfoaaDoorW.PrintWords Go.Proofs.YtalpmbeddldfoaaDoorW.PrintLast Go.Proofs.YtalpmbeddldfoaaDoorW.PrintMore
attribute [local go_sem] vW vV zc zb vG vF vU vT
attribute [local go_sem high] za zd ze
set_option linter.unusedVariables false
set_option linter.unusedSimpArgs false
def zR.f(l0 : List (zo)) : Option ((List (zo))):=(some (([] : List (zo)) : List (zo))).bind fun y207=>(if y207.length + l0.length<1954687338268 then(some (y207 ++ l0)) else(none))
set_option maxHeartbeats 8000000 in
set_option maxRecDepth 100000 in
theorem zR.calls(A0 : Option Addr)(c0 : Nat)(l0 : List (zo))(r : List (zo))(w : World)(hr0 : Kd.C jW w A0 l0.length l0)(hc0 : l0.length≤c0)(h : zR.f l0=some r) :
 Calls Tryd.prog 114 #[.slice A0 l0.length c0] w fun e w'=>∃ v0_ : Value,e = .returned (v0_)∧Kd.R jW 74 w' w.heap.size (fun _=>True) v0_ r∧Below w.heap.size w w':=by
 have HR0:=qb.mk hr0;have HC0:=qb.mk hc0;clear hr0 hc0;have HB:=qb.mk (Below.refl w.heap.size w);have H : ((some (([] : List (zo)) : List (zo))).bind fun y207=>(if y207.length + l0.length<1954687338268 then(some (y207 ++ l0)) else(none)))=some r:=h;clear h;obtain⟨y207,hy207⟩ : ∃ y_ : List (zo),y_=(([] : List (zo))):=⟨_,rfl⟩;replace H : (if y207.length + l0.length<1954687338268 then(some (y207 ++ l0)) else(none))=some r:=by first|(rw [hy207];with_reducible exact H)|(have Ab:=(Option.bind_some _ _).symm.trans H;rw [hy207];with_reducible exact Ab)|(have Ab:=(Option.bind_some _ _).symm.trans H;with_reducible exact Ab)|with_reducible exact H|(rw [hy207];exact H)|exact H
 have Ny207:=qb.mk hy207;clear hy207;by_cases c2 : y207.length + l0.length<1954687338268
 ·rw [if_pos c2] at H
  have LMc2:=qb.mk c2;clear c2;obtain⟨y210,hy210⟩ : ∃ y_ : List (zo),y_=(y207 ++ l0):=⟨_,rfl⟩;replace H : (some y210)=some r:=by first|(rw [hy210];with_reducible exact H)|(have Ab:=(Option.bind_some _ _).symm.trans H;rw [hy210];with_reducible exact Ab)|(have Ab:=(Option.bind_some _ _).symm.trans H;with_reducible exact Ab)|with_reducible exact H|(rw [hy210];exact H)|exact H
  have Ny210:=qb.mk hy210;clear hy210;obtain rfl:=Option.some.inj H;have qnil : ∀ (w : World) (a : Option Addr) (n c : Nat),(binOp .eql 33 (.slice a n c) (.slice none 0 0)).run Tryd.prog w = .ok (.bool a.isNone) w:=fun w a n c=>Lib.run_eql_slice_nil w _ _ a n c 0 0 Tryd.underlying33
  cases A0 with
  | none=>
   have e0 : l0.length=0:=by
    rcases Nat.eq_zero_or_pos l0.length with h0|h0
    ·exact h0
    ·obtain⟨ad_,ea_,_⟩:=HR0.out.2.2 h0
     cases ea_
   have e1 : l0 = []:=List.eq_nil_of_length_eq_zero e0;subst e1;have hq:=qnil;go_enter Tryd.func114,Tryd.ntmps114
   go_wp2
   go_ret
   exact⟨_,rfl,by rw [Ny210.out,Ny207.out];exact Kd.QK _ _ _ _ _,Below.refl _ _⟩
  | some ad0=>
   go_enter Tryd.func114,Tryd.ntmps114
   go_wp2_with (first|((with_reducible refine vE (N:=5) rfl ?_);refine Kd.VM jW _ 74 ?hg (N:=5) ?hd (xs:=([] : List (zo))) (inner:=[]) (ok:=fun _=>True) (okp:=fun _=>True) ?hr ?hp (fun _ hk=>hk) trivial (Below.refl _ _) (Nat.le_refl _) (by simp) ?_;(case hd=>rfl);(case hg=>rfl);(case hr=>first|(go_simp;done)|(go_simp;rfl));(case hp=>exact(zj.none _ _));intro v208 w3 ho4 hb hg_ hnew_;clear hg_ hnew_;(first|rw [← Ny207.out] at ho4|(simp only [Int.reduceToNat] at ho4;rw [← Ny207.out] at ho4));have n0_:=qb.mk (Kd.zq ho4 (qG (by repeat(first|(with_reducible first|exact HB.out|apply qd|apply qa|apply qc)|exact HB.out))));have n1_:=qb.mk (qB (by repeat(first|(with_reducible first|exact HB.out|apply qd|apply qa|apply qc)|exact HB.out)) hb);clear HB;have Aa:=n0_;have HB:=n1_;clear n0_ n1_;clear hb ho4)|((with_reducible refine Qb (b:=.append) (xs:=#[.tmp 5,.tmp 6]) rfl ?_);at_builtin;refine Kd.jM jW (w0:=w) w.heap.size rfl (.tmp 5) (.tmp 6) 33 74 (.agg #[(.int .i64 0),(.int .i64 0),(.int .i64 0),(.int .i64 0),(.int .i64 0),(.bool false),(.string ⟨#[]⟩),(.int .i64 0)]) 72 rfl Tryd.underlying33 info74 rfl (by decide) (by omega) v208 y207 l0 _ _ _ (fun _=>True) (fun _=>False) rfl rfl ?aO ?aR (fun _ _ h=>h) (fun _ h=>h.elim) ?aF ?aB ?aS ?aL ?_;(case aR=>repeat(first|exact(Kd.vk HR0.out HB.out)|(with_reducible refine Kd.qS ?_ _)|(with_reducible refine Kd.qU ?_ _)|(with_reducible refine Kd.vq ?_)));(case aB=>exact(by repeat(first|(with_reducible first|exact HB.out|apply qd|apply qa|apply qc)|exact HB.out)));(case aF=>exact(fun _ _=>trivial));(case aO=>exact(by(with_reducible repeat(first|apply Kd.vB|apply Kd.vA|apply Kd.vK));exact Aa.out));(case aS=>exact(qG (by repeat(first|(with_reducible first|exact HB.out|apply qd|apply qa|apply qc)|exact HB.out))));(case aL=>have:=LMc2.out;omega);intro v211 w5 ho hb hg hat;rw [← Ny210.out] at ho;have n0_:=qb.mk (hb);have n1_:=qb.mk (ho);clear HB;clear Aa;have HB:=n0_;have HO212:=n1_;clear n0_ n1_;clear ho hb hg hat))
   go_ret
   exact⟨_,by first|rfl|(simp [qK,qL] <;> rfl)|(simp [*,qK,qL] <;> rfl),by(with_reducible repeat(first|apply Kd.vB|apply Kd.vA|apply Kd.vK));exact HO212.out,by repeat(first|(with_reducible first|exact HB.out|apply qd|apply qa|apply qc)|exact HB.out)⟩
 ·rw [if_neg c2] at H
  exact absurd H (by simp)
end Go.Proofs.YtalpmbeddldfoaaDoor.PA
end
section
namespace Go.Proofs.YtalpmbeddldfoaaDoor.PA
open Go.RowKit Go.Proofs.YtalpmbeddldfoaaDoor.Hand Go.Proofs.YtalpmbeddldfoaaDoorW.PrintWords Go.Proofs.YtalpmbeddldfoaaDoorW.PrintLast Go.Proofs.YtalpmbeddldfoaaDoorW.PrintMore
attribute [local go_sem] vW vV zc zb vG vF vU vT
attribute [local go_sem high] za zd ze
set_option linter.unusedVariables false
set_option linter.unusedSimpArgs false
def vM.l0 : Nat→List (vP)→List (vP)→Int→Int→Option (Int)
 | 0,_,_,_,_=>none
 | k + 1,x0,x5,x6,x7=>if x7<x6 then(if 0≤x7 then(if x7<(x5.length : Int) then(if((qj x5 x7).f2)<1 then(some 3) else(if((qj x5 x7).f2) > 4294967296 then(some 3) else(vM.l0 k x0 x5 x6 (wrap64 (x7 + 1))))) else(none)) else(none)) else((vH.f k x0).bind fun t197=>((qM.f k t197).bind fun t200=>(some t200)))
def vM.f(k : Nat)(l0 : List (vP)) : Option (Int):=vM.l0 k l0 l0 (l0.length : Int) 0
theorem vM.mono_l : ∀ k,(∀ y0 y1 y2 y3,qR (vM.l0 k y0 y1 y2 y3) (vM.l0 (k + 1) y0 y1 y2 y3))
 | 0=>fun _ _ _ _ r h=>by simp [vM.l0] at h
 | k + 1=>by
  have ih0:=vM.mono_l k
  ·intro y0 y1 y2 y3
   unfold vM.l0
   repeat' first
   | (with_reducible exact ih0 _ _ _ _)
   | (with_reducible exact qM.mono _ _)
   | (with_reducible exact vH.mono _ _)
   | (with_reducible exact qR.refl _)
   | (with_reducible exact qR.none _)
   | (with_reducible refine qR.ite ?_ ?_)
   | (with_reducible refine qR.bind ?_ (fun _=>?_))
   | exact ih0 _ _ _ _
   | exact qM.mono _ _
   | exact vH.mono _ _
   | exact qR.none _
   | refine qR.ite ?_ ?_
   | refine qR.bind ?_ (fun _=>?_)
theorem vM.mono : ∀ a0 k,qR (vM.f k a0) (vM.f (k + 1) a0):=by
 intro a0 k;have ih0:=vM.mono_l k;unfold vM.f
 repeat' first
  | (with_reducible exact ih0 _ _ _ _)
  | (with_reducible exact qM.mono _ _)
  | (with_reducible exact vH.mono _ _)
  | (with_reducible exact qR.refl _)
  | (with_reducible exact qR.none _)
  | (with_reducible refine qR.ite ?_ ?_)
  | (with_reducible refine qR.bind ?_ (fun _=>?_))
  | exact ih0 _ _ _ _
  | exact qM.mono _ _
  | exact vH.mono _ _
  | exact qR.none _
  | refine qR.ite ?_ ?_
  | refine qR.bind ?_ (fun _=>?_)
set_option maxHeartbeats 8000000 in
set_option maxRecDepth 100000 in
theorem vM.calls(k : Nat)(A0 : Option Addr)(c0 : Nat)(l0 : List (vP))(r : Int)(w : World)(hr0 : Kd.C zM w A0 l0.length l0)(hc0 : l0.length≤c0)(h : vM.f k l0=some r)(hT : Qp w) :
 Calls Tryd.prog 55 #[.slice A0 l0.length c0] w fun e w'=>e = .returned (.int .i64 r)∧Below w.heap.size w w':=by
 have hl : l0.length≤9223372036854775807:=hr0.2.1
 have key : ∀ (k : Nat) (i : Int),0≤i→vM.l0 k l0 l0 (l0.length : Int) i=some r→
  ((∃ j : Int,i≤j∧j<l0.length∧QU (qj l0 j)=true)∧r=3)∨((∀ j : Int,i≤j→j<l0.length→QU (qj l0 j)=false) ∧ ∃ k' t,vH.f k' l0=some t∧qM.f k' t=some r):=by
  intro k
  induction k with
  | zero=>intro i _ h;simp [vM.l0] at h
  | succ k ih=>
   intro i h0 h;simp only [vM.l0] at h;by_cases c1 : i<(l0.length : Int)
   ·rw [if_pos c1,if_pos h0,if_pos c1] at h
    by_cases c2 : (qj l0 i).f2<1
    ·rw [if_pos c2] at h
     exact .inl ⟨⟨i,Int.le_refl _,c1,by unfold QU;rw [decide_eq_true c2];rfl⟩,(Option.some.inj h).symm⟩
    ·rw [if_neg c2] at h
     by_cases c3 : (qj l0 i).f2 > 4294967296
     ·rw [if_pos c3] at h
      exact .inl ⟨⟨i,Int.le_refl _,c1,by unfold QU;rw [decide_eq_true (show 4294967296<(qj l0 i).f2 from c3)];simp⟩,(Option.some.inj h).symm⟩
     ·rw [if_neg c3,IntWalk.wrap64_in _ (by omega)] at h
      rcases ih (i + 1) (by omega) h with ⟨⟨j,hj,hj2,hj3⟩,e⟩|⟨hj,e⟩
      ·exact .inl ⟨⟨j,by omega,hj2,hj3⟩,e⟩
      ·refine .inr ⟨fun j h1 h2=>?_,e⟩
       by_cases e : j=i
       ·subst e
        unfold QU;rw [decide_eq_false c2,decide_eq_false (show ¬ 4294967296<(qj l0 j).f2 from c3)]
        rfl
       ·exact hj j (by omega) h2
   ·rw [if_neg c1] at h
    obtain⟨t,ht,h⟩:=Option.bind_eq_some_iff.mp h;obtain⟨t2,ht2,h⟩:=Option.bind_eq_some_iff.mp h;obtain rfl:=Option.some.inj h;exact .inr ⟨fun j h1 h2=>by omega,k,t,ht,ht2⟩
 have hk:=key k 0 (Int.le_refl _) h;clear key h;have cH:=Zw 88 QU (enters_of Tryd.func88 (by kernel_rfl) rfl) odd_walk A0 c0 l0 w hr0 hc0
 have rdm : ∀ x ∈ l0,∃ j : Int,0≤j∧j<l0.length∧qj l0 j=x:=fun x hx=>by
  obtain⟨j,hj,rfl⟩:=List.getElem_of_mem hx;refine⟨j,by omega,by omega,?_⟩;show l0.getD (j : Int).toNat _=_
  rw [Int.toNat_natCast,List.getD_eq_getElem?_getD,List.getElem?_eq_getElem hj]
  rfl
 rcases hk with ⟨⟨j,h1,h2,h3⟩,rfl⟩|⟨hno,k',t,ht,hc⟩
 ·have ha : l0.any QU=true:=VK QU l0 j h1 h2 h3
  rw [ha] at cH;clear ha hr0 hc0 hT rdm hl h1 h2 h3;go_enter Tryd.func55,Tryd.ntmps55
  go_wp2_with (go_at_call 89;refine cH.mono ?_;rintro e w2 ⟨rfl,hb2⟩)
  go_ret
  exact⟨rfl,hb2⟩
 ·have ha : l0.any QU=false:=by
   rw [List.any_eq_false];intro x hx;obtain⟨j,h1,h2,rfl⟩:=rdm x hx;rw [hno j h1 h2];simp
  rw [ha] at cH;have HR:=qb.mk hr0;have HC:=qb.mk hc0;have HT:=qb.mk hT;have HP:=qb.mk ht;have HK:=qb.mk hc;clear ha hr0 hc0 hT rdm hl hno ht hc;go_enter Tryd.func55,Tryd.ntmps55
  go_wp2_with (go_at_call 89;refine cH.mono ?_;rintro e w2 ⟨rfl,hb2⟩;have HB:=qb.mk hb2;clear hb2)
  go_wp2_with fail
  refine(vH.calls k' _ _ l0 t _ (Kd.vk HR.out HB.out) HC.out HP.out).mono ?_;rintro e w3 ⟨v,rfl,ho,hb3⟩;obtain⟨A1,c1,rfl⟩:=Kd.zn ho;have HO:=qb.mk (Kd.vQ ho);replace HB:=qb.mk (qB HB.out hb3);clear ho hb3;go_wp2_with fail
  refine(qM.calls k' _ _ t r _ HO.out.2.2 HO.out.2.1 HK.out (HT.out.go HB.out)).mono ?_;rintro e w4 ⟨rfl,hb4⟩;replace HB:=qb.mk (qB HB.out hb4);clear hb4;go_wp2
  go_ret
  exact⟨rfl,HB.out⟩
end Go.Proofs.YtalpmbeddldfoaaDoor.PA
end
