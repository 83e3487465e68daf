import Derived.Test.YtalpmbeddldfoaaDoorF0
import Derived.Test.YtalpmbeddldfoaaDoorFChangeoverref22Check
import Derived.Test.YtalpmbeddldfoaaDoorFChangeoverref23Check
namespace Go.Proofs.YtalpmbeddldfoaaDoor.PA
open Go.RowKit Go.Proofs.YtalpmbeddldfoaaDoor.Hand Go.Proofs.YtalpmbeddldfoaaDoorW.PrintWords Go.Proofs.YtalpmbeddldfoaaDoorW.PrintLast Go.Proofs.YtalpmbeddldfoaaDoorW.PrintMore
attribute [local go_sem] vW vV zc zb vG vF vU vT
attribute [local go_sem high] za zd ze
set_option linter.unusedVariables false
set_option linter.unusedSimpArgs false
mutual
def qx.j0 : Nat→Bool→Int→List (vP)→List (zo)→Option (Bool)
 | 0,_,_,_,_=>none
 | k + 1,x25,Ap,Au,Ao=>if x25=true then(some false) else(qx.l0 k 0 Ap Au Ao)
def qx.l0 : Nat→Int→Int→List (vP)→List (zo)→Option (Bool)
 | 0,_,_,_,_=>none
 | k + 1,x3,Ap,Au,Ao=>if x3<(Ao.length : Int) then(if Ap=1 then(if 0≤x3 then(if((qf Ao x3).f2.f5)=0 then(qx.l0 k (wrap64 (x3 + 1)) Ap Au Ao) else(some false)) else(none)) else(qx.l0 k (wrap64 (x3 + 1)) Ap Au Ao)) else(some true)
end
def qx.f(k : Nat)(a0_0 : Int)(l0_1 : List (vP))(l0_2 : List (zo)) : Option (Bool):=if a0_0<1 then(qx.j0 k true a0_0 l0_1 l0_2) else(if a0_0 > 2 then(qx.j0 k true a0_0 l0_1 l0_2) else((qk.f k a0_0 l0_1).bind fun AE=>(if AE=true then((qA.f k l0_2).bind fun Av=>(qx.j0 k (!Av) a0_0 l0_1 l0_2)) else(qx.j0 k true a0_0 l0_1 l0_2))))
theorem qx.mono_l : ∀ k,(∀ y0 y1 y2 y3,qR (qx.j0 k y0 y1 y2 y3) (qx.j0 (k + 1) y0 y1 y2 y3))∧(∀ y0 y1 y2 y3,qR (qx.l0 k y0 y1 y2 y3) (qx.l0 (k + 1) y0 y1 y2 y3))
 | 0=>⟨fun _ _ _ _ r h=>by simp [qx.j0] at h,fun _ _ _ _ r h=>by simp [qx.l0] at h⟩
 | k + 1=>by
  obtain⟨ih0,ih1⟩:=qx.mono_l k;refine⟨?_,?_⟩
  ·intro y0 y1 y2 y3
   unfold qx.j0
   repeat' first
   | (with_reducible exact ih0 _ _ _ _)
   | (with_reducible exact ih1 _ _ _ _)
   | (with_reducible exact qA.mono _ _)
   | (with_reducible exact qk.mono _ _ _)
   | (with_reducible exact qR.refl _)
   | (with_reducible exact qR.none _)
   | (with_reducible refine qR.ite ?_ ?_)
   | (with_reducible refine qR.bind ?_ (fun _=>?_))
   | exact ih0 _ _ _ _
   | exact ih1 _ _ _ _
   | exact qA.mono _ _
   | exact qk.mono _ _ _
   | exact qR.none _
   | refine qR.ite ?_ ?_
   | refine qR.bind ?_ (fun _=>?_)
  ·intro y0 y1 y2 y3
   unfold qx.l0
   repeat' first
   | (with_reducible exact ih0 _ _ _ _)
   | (with_reducible exact ih1 _ _ _ _)
   | (with_reducible exact qA.mono _ _)
   | (with_reducible exact qk.mono _ _ _)
   | (with_reducible exact qR.refl _)
   | (with_reducible exact qR.none _)
   | (with_reducible refine qR.ite ?_ ?_)
   | (with_reducible refine qR.bind ?_ (fun _=>?_))
   | exact ih0 _ _ _ _
   | exact ih1 _ _ _ _
   | exact qA.mono _ _
   | exact qk.mono _ _ _
   | exact qR.none _
   | refine qR.ite ?_ ?_
   | refine qR.bind ?_ (fun _=>?_)
theorem qx.mono : ∀ a0 a1 a2 k,qR (qx.f k a0 a1 a2) (qx.f (k + 1) a0 a1 a2):=by
 intro a0 a1 a2 k;obtain⟨ih0,ih1⟩:=qx.mono_l k;unfold qx.f
 repeat' first
  | (with_reducible exact ih0 _ _ _ _)
  | (with_reducible exact ih1 _ _ _ _)
  | (with_reducible exact qA.mono _ _)
  | (with_reducible exact qk.mono _ _ _)
  | (with_reducible exact qR.refl _)
  | (with_reducible exact qR.none _)
  | (with_reducible refine qR.ite ?_ ?_)
  | (with_reducible refine qR.bind ?_ (fun _=>?_))
  | exact ih0 _ _ _ _
  | exact ih1 _ _ _ _
  | exact qA.mono _ _
  | exact qk.mono _ _ _
  | exact qR.none _
  | refine qR.ite ?_ ?_
  | refine qR.bind ?_ (fun _=>?_)
set_option maxHeartbeats 8000000 in
set_option maxRecDepth 100000 in
theorem qx.calls(k : Nat)(a0_0 : Int)(Aq : Option Addr)(Ar : Nat)(l0_1 : List (vP))(As : Option Addr)(At : Nat)(l0_2 : List (zo))(r : Bool)(w : World)(hr0_1 : Kd.C zM w Aq l0_1.length l0_1)(hc0_1 : l0_1.length≤Ar)(hr0_2 : Kd.C jW w As l0_2.length l0_2)(hc0_2 : l0_2.length≤At)(h : qx.f k a0_0 l0_1 l0_2=some r) :
 Calls Tryd.prog 35 #[.agg #[.int .i64 a0_0,.slice Aq l0_1.length Ar,.slice As l0_2.length At]] w fun e w'=>e = .returned (.bool r)∧Below w.heap.size w w':=by
 have hu35:=Tryd.underlying35;have HR0_1:=qb.mk hr0_1;have AM:=qb.mk hc0_1;clear hr0_1 hc0_1;have HR0_2:=qb.mk hr0_2;have HC0_2:=qb.mk hc0_2;clear hr0_2 hc0_2;have HB:=qb.mk (Below.refl w.heap.size w);have H : (if a0_0<1 then(qx.j0 k true a0_0 l0_1 l0_2) else(if a0_0 > 2 then(qx.j0 k true a0_0 l0_1 l0_2) else((qk.f k a0_0 l0_1).bind fun AE=>(if AE=true then((qA.f k l0_2).bind fun Av=>(qx.j0 k (!Av) a0_0 l0_1 l0_2)) else(qx.j0 k true a0_0 l0_1 l0_2)))))=some r:=h;clear h;have HC2:=qb.mk H;clear H;go_enter Tryd.func35,Tryd.ntmps35
 go_upto_region 1 with (first|((with_reducible refine vE (N:=1) rfl ?_);refine vD ?hg (N:=1) ?hd (cs:=#[.int .i64 a0_0,.slice Aq l0_1.length Ar,.slice As l0_2.length At]) (t:=35) ?hr ?_;(case hd=>rfl);(case hg=>rfl);(case hr=>first|(go_simp;done)|(go_simp;rfl));intro Ab hg w3 hbox hb;have n0_:=qb.mk (qB (by repeat(first|(with_reducible first|exact HB.out|apply qd|apply qa|apply qc)|exact HB.out)) hb);have n1_:=qb.mk (hbox);have n2_:=qb.mk ((by rw [hg];exact(qG (by repeat(first|(with_reducible first|exact HB.out|apply qd|apply qa|apply qc)|exact HB.out))) : w.heap.size≤Ab));have n3_:=qb.mk ((by rw [hg];exact(qG (by repeat(first|(with_reducible first|exact HB.out|apply qd|apply qa|apply qc)|exact HB.out))) : w.heap.size≤Ab));clear HB;have HB:=n0_;have Aa:=n1_;have GW269:=n2_;have Am:=n3_;clear n0_ n1_ n2_ n3_;clear hb hbox hg))
 (try simp only [Act.put,qSa,qSb,qSc])
 go_cut [25] (fun v25 wc=>∃ (kq : Nat) (Ax : Bool),v25 = .bool Ax∧qb (qx.j0 kq Ax a0_0 l0_1 l0_2=some r)∧qb (kq≤k)∧qb (wc.heap[Ab]? = some (.cells #[.int .i64 a0_0,(.slice Aq l0_1.length Ar),(.slice As l0_2.length At)] 35 (0,0)))∧qb (Below w.heap.size w wc))
 case first=>
  have H:=HC2.out;clear HC2;by_cases c4 : a0_0<1
  ·rw [if_pos c4] at H
   have Aw : decide (a0_0<1)=true:=decide_eq_true c4;clear c4
   (first|rw [Aw]|(simp only [qm,qq];rw [Aw])|skip)
   have H':=qb.mk H;clear H;have AF : w3.cell? ⟨Ab,0,none⟩=some (.int .i64 a0_0):=(qe Aa.out 0).trans rfl;have AG : w3.cell? ⟨Ab,1,none⟩=some (.slice Aq l0_1.length Ar):=(qe Aa.out 1).trans rfl;have AH : w3.cell? ⟨Ab,2,none⟩=some (.slice As l0_2.length At):=(qe Aa.out 2).trans rfl;have hfz5_0:=qg Aa.out 0;have hfz5_1:=qg Aa.out 1;have hfz5_2:=qg Aa.out 2;go_wp2
   go_meet
   case rel=>exact⟨_,(true),(by first|rfl|(simp;done)|(simp [*];done)),H',⟨by first|omega|exact Nat.le_refl _⟩,⟨by(with_reducible repeat(first|refine qp ?_ _|refine qu ?_|refine qo ?_ _));exact Aa.out⟩,⟨by repeat(first|(with_reducible first|exact HB.out|apply qd|apply qa|apply qc|refine qh ?_ Am.out)|exact HB.out)⟩⟩
  ·rw [if_neg c4] at H
   have Aw : decide (a0_0<1)=false:=decide_eq_false c4;clear c4
   (first|rw [Aw]|(simp only [qm,qq];rw [Aw])|skip)
   by_cases c6 : a0_0 > 2
   ·rw [if_pos c6] at H
    have AP : decide (2<a0_0)=true:=decide_eq_true c6;clear c6;have H':=qb.mk H;clear H;have AJ : w3.cell? ⟨Ab,0,none⟩=some (.int .i64 a0_0):=(qe Aa.out 0).trans rfl;have AK : w3.cell? ⟨Ab,1,none⟩=some (.slice Aq l0_1.length Ar):=(qe Aa.out 1).trans rfl;have AL : w3.cell? ⟨Ab,2,none⟩=some (.slice As l0_2.length At):=(qe Aa.out 2).trans rfl;have hfz7_0:=qg Aa.out 0;have hfz7_1:=qg Aa.out 1;have hfz7_2:=qg Aa.out 2;go_wp2
    go_meet
    case rel=>exact⟨_,(true),(by first|rfl|(simp;done)|(simp [*];done)),H',⟨by first|omega|exact Nat.le_refl _⟩,⟨by(with_reducible repeat(first|refine qp ?_ _|refine qu ?_|refine qo ?_ _));exact Aa.out⟩,⟨by repeat(first|(with_reducible first|exact HB.out|apply qd|apply qa|apply qc|refine qh ?_ Am.out)|exact HB.out)⟩⟩
   ·rw [if_neg c6] at H
    have AP : decide (2<a0_0)=false:=decide_eq_false c6;clear c6;replace H:=Option.bind_eq_some_iff.mp H;obtain⟨AE,A80,H⟩:=H;replace H : (if AE=true then((qA.f k l0_2).bind fun Av=>(qx.j0 k (!Av) a0_0 l0_1 l0_2)) else(qx.j0 k true a0_0 l0_1 l0_2))=some r:=H;have A8:=qb.mk A80;clear A80;by_cases c9 : AE=true
    ·subst c9
     have H1 : ((qA.f k l0_2).bind fun Av=>(qx.j0 k (!Av) a0_0 l0_1 l0_2))=some r:=by rw [if_pos rfl] at H;exact H
     clear H;have H:=H1;clear H1;replace H:=Option.bind_eq_some_iff.mp H;obtain⟨Av,A100,H⟩:=H;replace H : (qx.j0 k (!Av) a0_0 l0_1 l0_2)=some r:=H;have A10:=qb.mk A100;clear A100;have H':=qb.mk H;clear H;have Ay : w3.cell? ⟨Ab,0,none⟩=some (.int .i64 a0_0):=(qe Aa.out 0).trans rfl;have Az : w3.cell? ⟨Ab,1,none⟩=some (.slice Aq l0_1.length Ar):=(qe Aa.out 1).trans rfl;have AA : w3.cell? ⟨Ab,2,none⟩=some (.slice As l0_2.length At):=(qe Aa.out 2).trans rfl;have hfz11_0:=qg Aa.out 0;have hfz11_1:=qg Aa.out 1;have hfz11_2:=qg Aa.out 2;go_wp2_with (first|(go_at_call 48;(with_reducible refine(qk.calls k a0_0 _ _ l0_1 true _ ?side1 ?side2 A8.out).mono ?_);(case side1=>repeat(first|exact(Kd.vk HR0_1.out HB.out)|(with_reducible refine Kd.qS ?_ _)|(with_reducible refine Kd.qU ?_ _)|(with_reducible refine Kd.vq ?_)));(case side2=>exact AM.out);rintro e w' ⟨rfl,⟨nd,rfl⟩⟩)|(go_at_call 44;(with_reducible refine(qA.calls k _ _ l0_2 Av _ ?side1 ?side2 A10.out).mono ?_);(case side1=>repeat(first|exact(Kd.vk HR0_2.out (by repeat(first|(with_reducible first|exact HB.out|apply qd|apply qa|apply qc|refine qh ?_ Am.out)|exact HB.out)))|(with_reducible refine Kd.qS ?_ _)|(with_reducible refine Kd.qU ?_ _)|(with_reducible refine Kd.vq ?_)));(case side2=>exact HC0_2.out);rintro e w12 ⟨rfl,hb⟩;have n0_:=qb.mk (qJ (g:=Ab) (o:=.cells #[.int .i64 a0_0,.slice Aq l0_1.length Ar,.slice As l0_2.length At] 35 (0,0)) (by(with_reducible repeat(first|refine qp ?_ _|refine qu ?_|refine qo ?_ _));exact Aa.out) hb);have n1_:=qb.mk (qB (by repeat(first|(with_reducible first|exact HB.out|apply qd|apply qa|apply qc|refine qh ?_ Am.out)|exact HB.out)) hb);clear Aa;clear HB;have Aa:=n0_;have HB:=n1_;clear n0_ n1_;(try clear hb);(try clear hb2);(try clear hk);(try clear hi)))
     go_meet
     case rel=>exact⟨_,(!Av),(by first|rfl|(simp;done)|(simp [*];done)),H',⟨by first|omega|exact Nat.le_refl _⟩,⟨by(with_reducible repeat(first|refine qp ?_ _|refine qu ?_|refine qo ?_ _));exact Aa.out⟩,⟨by repeat(first|(with_reducible first|exact HB.out|apply qd|apply qa|apply qc|refine qh ?_ Am.out)|exact HB.out)⟩⟩
    ·replace c9:=Bool.eq_false_iff.mpr c9
     subst c9;have H1 : (qx.j0 k true a0_0 l0_1 l0_2)=some r:=by rw [if_neg (show ¬ (false=true) by decide)] at H;exact H
     clear H;have H:=H1;clear H1;have H':=qb.mk H;clear H;have AB : w3.cell? ⟨Ab,0,none⟩=some (.int .i64 a0_0):=(qe Aa.out 0).trans rfl;have AC : w3.cell? ⟨Ab,1,none⟩=some (.slice Aq l0_1.length Ar):=(qe Aa.out 1).trans rfl;have AD : w3.cell? ⟨Ab,2,none⟩=some (.slice As l0_2.length At):=(qe Aa.out 2).trans rfl;have hfz13_0:=qg Aa.out 0;have hfz13_1:=qg Aa.out 1;have hfz13_2:=qg Aa.out 2;go_wp2_with (first|(go_at_call 48;(with_reducible refine(qk.calls k a0_0 _ _ l0_1 false _ ?side1 ?side2 A8.out).mono ?_);(case side1=>repeat(first|exact(Kd.vk HR0_1.out HB.out)|(with_reducible refine Kd.qS ?_ _)|(with_reducible refine Kd.qU ?_ _)|(with_reducible refine Kd.vq ?_)));(case side2=>exact AM.out);rintro e w' ⟨rfl,⟨nd,rfl⟩⟩))
     go_meet
     case rel=>exact⟨_,(true),(by first|rfl|(simp;done)|(simp [*];done)),H',⟨by first|omega|exact Nat.le_refl _⟩,⟨by(with_reducible repeat(first|refine qp ?_ _|refine qu ?_|refine qo ?_ _));exact Aa.out⟩,⟨by repeat(first|(with_reducible first|exact HB.out|apply qd|apply qa|apply qc|refine qh ?_ Am.out)|exact HB.out)⟩⟩
 case rest=>
  clear HC2;try clear p2
  try clear c3
  try clear c4
  try clear Aw
  try clear c6
  try clear AP
  try clear c9
  try clear Ay
  try clear Az
  try clear AA
  try clear AB
  try clear AC
  try clear AD
  try clear AF
  try clear AG
  try clear AH
  try clear AJ
  try clear AK
  try clear AL
  try clear hfz11_0
  try clear hfz11_1
  try clear hfz11_2
  try clear hfz13_0
  try clear hfz13_1
  try clear hfz13_2
  try clear hfz5_0
  try clear hfz5_1
  try clear hfz5_2
  try clear hfz7_0
  try clear hfz7_1
  try clear hfz7_2
  obtain⟨kq,Ax,rfl,HA,HJ1,Aa,HB⟩:=hcut
  cases kq with
  | zero=>exact absurd HA.out (by simp [qx.j0])
  | succ kj1=>
   have H:=HA.out;clear HA;simp only [qx.j0] at H;by_cases c14 : Ax=true
   ·subst c14
    have H1 : (some false)=some r:=by rw [if_pos rfl] at H;exact H
    clear H;have H:=H1;clear H1;obtain rfl:=Option.some.inj H;go_wp2
    go_ret
    exact⟨by first|rfl|(simp [qK,qL] <;> rfl)|(simp [*,qK,qL] <;> rfl),by repeat(first|(with_reducible first|exact HB.out|apply qd|apply qa|apply qc|refine qh ?_ Am.out)|exact HB.out)⟩
   ·replace c14:=Bool.eq_false_iff.mpr c14
    subst c14;have H1 : (qx.l0 kj1 0 a0_0 l0_1 l0_2)=some r:=by rw [if_neg (show ¬ (false=true) by decide)] at H;exact H
    clear H;have H:=H1;clear H1;have H':=qb.mk H;clear H;go_wp2
    go_loopg [3] kj1 (fun kq v3 w'=>∃ (Ac : Int),v3 = .int .i64 Ac∧qb (qx.l0 kq Ac a0_0 l0_1 l0_2=some r)∧qb (kq≤kj1)∧qb (w'.heap[Ab]? = some (.cells #[.int .i64 a0_0,(.slice Aq l0_1.length Ar),(.slice As l0_2.length At)] 35 (0,0)))∧qb (Below w.heap.size w w'))
    case atStart=>exact⟨(0),(by first|rfl|(simp;done)|(simp [*];done)),H',⟨Nat.le_refl _⟩,⟨by(with_reducible repeat(first|refine qp ?_ _|refine qu ?_|refine qo ?_ _));exact Aa.out⟩,⟨by repeat(first|(with_reducible first|exact HB.out|apply qd|apply qa|apply qc|refine qh ?_ Am.out)|exact HB.out)⟩⟩
    case round=>
     clear H';try clear c1
     try clear p2
     try clear c3
     try clear c4
     try clear Aw
     try clear c6
     try clear AP
     try clear c9
     try clear c14
     try clear Ay
     try clear Az
     try clear AA
     try clear AB
     try clear AC
     try clear AD
     try clear AF
     try clear AG
     try clear AH
     try clear AJ
     try clear AK
     try clear AL
     try clear hfz11_0
     try clear hfz11_1
     try clear hfz11_2
     try clear hfz13_0
     try clear hfz13_1
     try clear hfz13_2
     try clear hfz5_0
     try clear hfz5_1
     try clear hfz5_2
     try clear hfz7_0
     try clear hfz7_1
     try clear hfz7_2
     try clear p2
     obtain⟨Ac,rfl,HA,HK2,Aa,HB⟩:=hrel
     cases gk with
     | zero=>exact absurd HA.out (by simp [qx.l0])
     | succ k2=>
      have H:=HA.out;clear HA;simp only [qx.l0] at H;by_cases c15 : Ac<(l0_2.length : Int)
      ·rw [if_pos c15] at H
       have c15b0 : decide (Ac<(l0_2.length : Int))=true:=decide_eq_true c15;clear c15;by_cases AQ : a0_0=1
       ·rw [if_pos AQ] at H
        have c16b0 : (a0_0 == 1)=true:=beq_iff_eq.mpr AQ;have c16b1 : (a0_0 != 1)=false:=bne_eq_false_iff_eq.mpr AQ;clear AQ;by_cases c17 : 0≤Ac
        ·rw [if_pos c17] at H
         have c17b0 : decide (0≤Ac)=true:=decide_eq_true c17;clear c17;by_cases AR : ((qf l0_2 Ac).f2.f5)=0
         ·rw [if_pos AR] at H
          have c18b0 : (((qf l0_2 Ac).f2.f5) == 0)=true:=beq_iff_eq.mpr AR;have c18b1 : (((qf l0_2 Ac).f2.f5) != 0)=false:=bne_eq_false_iff_eq.mpr AR;clear AR;have H':=qb.mk H;clear H;have hcz19_0 : wr.cell? ⟨Ab,0,none⟩=some (.int .i64 a0_0):=(qe Aa.out 0).trans rfl;have hcz19_1 : wr.cell? ⟨Ab,1,none⟩=some (.slice Aq l0_1.length Ar):=(qe Aa.out 1).trans rfl;have hcz19_2 : wr.cell? ⟨Ab,2,none⟩=some (.slice As l0_2.length At):=(qe Aa.out 2).trans rfl;have hfz19_0:=qg Aa.out 0;have hfz19_1:=qg Aa.out 1;have hfz19_2:=qg Aa.out 2;have p272 : 0≤(Ac : Int):=of_decide_eq_true (by first|(with_reducible assumption)|assumption);have q272 : Ac<(l0_2.length : Int):=of_decide_eq_true (by first|(with_reducible assumption)|assumption);obtain⟨ad272,e272,Ad,Ae,Af,Ag,Ah,Ai,Aj,Ak⟩:=zp HR0_2.out Ac p272 q272
          cases e272
          replace Ad:=(HB.out.cell (World.block_lt_of_cell? w _ Ad)).trans Ad;replace Ae:=(HB.out.cell (World.block_lt_of_cell? w _ Ae)).trans Ae;replace Af:=(HB.out.cell (World.block_lt_of_cell? w _ Af)).trans Af;replace Ag:=(HB.out.cell (World.block_lt_of_cell? w _ Ag)).trans Ag;replace Ah:=(HB.out.cell (World.block_lt_of_cell? w _ Ah)).trans Ah;replace Ai:=(HB.out.cell (World.block_lt_of_cell? w _ Ai)).trans Ai;replace Aj:=(HB.out.cell (World.block_lt_of_cell? w _ Aj)).trans Aj;replace Ak:=(HB.out.cell (World.block_lt_of_cell? w _ Ak)).trans Ak;replace p272:=eq_true p272;replace q272:=eq_true q272;go_wp2
          go_roundg k2
          case measure=>have:=HJ1.out;have:=HK2.out;omega
          case rel=>exact⟨(wrap64 (Ac + 1)),(by first|rfl|(simp;done)|(simp [*];done)),H',⟨by have:=HJ1.out;have:=HK2.out;omega⟩,⟨by(with_reducible repeat(first|refine qp ?_ _|refine qu ?_|refine qo ?_ _));exact Aa.out⟩,⟨by repeat(first|(with_reducible first|exact HB.out|apply qd|apply qa|apply qc|refine qh ?_ Am.out)|exact HB.out)⟩⟩
         ·rw [if_neg AR] at H
          have c18b0 : (((qf l0_2 Ac).f2.f5) == 0)=false:=beq_eq_false_iff_ne.mpr AR;have c18b1 : (((qf l0_2 Ac).f2.f5) != 0)=true:=bne_iff_ne.mpr AR;obtain rfl:=Option.some.inj H;have hcz20_0 : wr.cell? ⟨Ab,0,none⟩=some (.int .i64 a0_0):=(qe Aa.out 0).trans rfl;have hcz20_1 : wr.cell? ⟨Ab,1,none⟩=some (.slice Aq l0_1.length Ar):=(qe Aa.out 1).trans rfl;have hcz20_2 : wr.cell? ⟨Ab,2,none⟩=some (.slice As l0_2.length At):=(qe Aa.out 2).trans rfl;have hfz20_0:=qg Aa.out 0;have hfz20_1:=qg Aa.out 1;have hfz20_2:=qg Aa.out 2;have p272 : 0≤(Ac : Int):=of_decide_eq_true (by first|(with_reducible assumption)|assumption);have q272 : Ac<(l0_2.length : Int):=of_decide_eq_true (by first|(with_reducible assumption)|assumption);obtain⟨ad272,e272,Ad,Ae,Af,Ag,Ah,Ai,Aj,Ak⟩:=zp HR0_2.out Ac p272 q272
          cases e272
          replace Ad:=(HB.out.cell (World.block_lt_of_cell? w _ Ad)).trans Ad;replace Ae:=(HB.out.cell (World.block_lt_of_cell? w _ Ae)).trans Ae;replace Af:=(HB.out.cell (World.block_lt_of_cell? w _ Af)).trans Af;replace Ag:=(HB.out.cell (World.block_lt_of_cell? w _ Ag)).trans Ag;replace Ah:=(HB.out.cell (World.block_lt_of_cell? w _ Ah)).trans Ah;replace Ai:=(HB.out.cell (World.block_lt_of_cell? w _ Ai)).trans Ai;replace Aj:=(HB.out.cell (World.block_lt_of_cell? w _ Aj)).trans Aj;replace Ak:=(HB.out.cell (World.block_lt_of_cell? w _ Ak)).trans Ak;replace p272:=eq_true p272;replace q272:=eq_true q272;go_wp2
          go_ret
          exact⟨by first|rfl|(simp [qK,qL] <;> rfl)|(simp [*,qK,qL] <;> rfl),by repeat(first|(with_reducible first|exact HB.out|apply qd|apply qa|apply qc|refine qh ?_ Am.out)|exact HB.out)⟩
        ·rw [if_neg c17] at H
         exact absurd H (by simp)
       ·rw [if_neg AQ] at H
        have c16b0 : (a0_0 == 1)=false:=beq_eq_false_iff_ne.mpr AQ;have c16b1 : (a0_0 != 1)=true:=bne_iff_ne.mpr AQ;have H':=qb.mk H;clear H;have hcz21_0 : wr.cell? ⟨Ab,0,none⟩=some (.int .i64 a0_0):=(qe Aa.out 0).trans rfl;have hcz21_1 : wr.cell? ⟨Ab,1,none⟩=some (.slice Aq l0_1.length Ar):=(qe Aa.out 1).trans rfl;have hcz21_2 : wr.cell? ⟨Ab,2,none⟩=some (.slice As l0_2.length At):=(qe Aa.out 2).trans rfl;have hfz21_0:=qg Aa.out 0;have hfz21_1:=qg Aa.out 1;have hfz21_2:=qg Aa.out 2;go_wp2
        go_roundg k2
        case measure=>have:=HJ1.out;have:=HK2.out;omega
        case rel=>exact⟨(wrap64 (Ac + 1)),(by first|rfl|(simp;done)|(simp [*];done)),H',⟨by have:=HJ1.out;have:=HK2.out;omega⟩,⟨by(with_reducible repeat(first|refine qp ?_ _|refine qu ?_|refine qo ?_ _));exact Aa.out⟩,⟨by repeat(first|(with_reducible first|exact HB.out|apply qd|apply qa|apply qc|refine qh ?_ Am.out)|exact HB.out)⟩⟩
      ·rw [if_neg c15] at H
       have c15b0 : decide (Ac<(l0_2.length : Int))=false:=decide_eq_false c15;clear c15;obtain rfl:=Option.some.inj H;have hcz22_0 : wr.cell? ⟨Ab,0,none⟩=some (.int .i64 a0_0):=(qe Aa.out 0).trans rfl;have hcz22_1 : wr.cell? ⟨Ab,1,none⟩=some (.slice Aq l0_1.length Ar):=(qe Aa.out 1).trans rfl;have hcz22_2 : wr.cell? ⟨Ab,2,none⟩=some (.slice As l0_2.length At):=(qe Aa.out 2).trans rfl;have hfz22_0:=qg Aa.out 0;have hfz22_1:=qg Aa.out 1;have hfz22_2:=qg Aa.out 2;go_wp2
       go_ret
       exact⟨by first|rfl|(simp [qK,qL] <;> rfl)|(simp [*,qK,qL] <;> rfl),by repeat(first|(with_reducible first|exact HB.out|apply qd|apply qa|apply qc|refine qh ?_ Am.out)|exact HB.out)⟩
end Go.Proofs.YtalpmbeddldfoaaDoor.PA
