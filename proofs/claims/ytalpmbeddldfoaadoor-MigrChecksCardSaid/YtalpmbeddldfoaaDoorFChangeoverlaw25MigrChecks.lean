import Derived.Test.YtalpmbeddldfoaaDoorF0
import Derived.Test.YtalpmbeddldfoaaDoorFChangeoverref23Same
import Derived.Test.YtalpmbeddldfoaaDoorFMigrCheck
import Derived.Test.YtalpmbeddldfoaaDoorFMigrClone
import Derived.Test.YtalpmbeddldfoaaDoorFChangeoverlaw25Awake
import Derived.Test.YtalpmbeddldfoaaDoorFChangeoverref25Check
import Derived.Test.YtalpmbeddldfoaaDoorFChangeoverref25Same
import Derived.Test.YtalpmbeddldfoaaDoorFMigrSame
import Derived.Test.YtalpmbeddldfoaaDoorHandD
namespace Go.Proofs.YtalpmbeddldfoaaDoor.PA
open Go.RowKit Go.Proofs.YtalpmbeddldfoaaDoor.Hand Go.Proofs.YtalpmbeddldfoaaDoorW.PrintWords Go.Proofs.YtalpmbeddldfoaaDoorW.PrintLast Go.Proofs.YtalpmbeddldfoaaDoorW.PrintMore
attribute [local go_sem] vW vV zc zb vG vF vU vT
attribute [local go_sem high] za zd ze
set_option linter.unusedVariables false
set_option linter.unusedSimpArgs false
mutual
def qt.j0 : Nat→Bool→Int→List (vP)→List (zo)→Int→List (vP)→List (zo)→Option (Bool)
 | 0,_,_,_,_,_,_,_=>none
 | k + 1,x11,Ax,Ay,Az,AJ,AK,AL=>if x11=true then((qZ.f k).bind fun Bp=>(some Bp)) else((qx.f k Ax Ay Az).bind fun Bd=>(if Bd=true then(qt.j1 k 0 Ax Ay Az AJ AK AL) else(qt.j1 k 3 Ax Ay Az AJ AK AL)))
def qt.j1 : Nat→Int→Int→List (vP)→List (zo)→Int→List (vP)→List (zo)→Option (Bool)
 | 0,_,_,_,_,_,_,_=>none
 | k + 1,x5,Ax,Ay,Az,AJ,AK,AL=>(vz.f k Ax Ay Az).bind fun AR=>(if AR=x5 then((zg.f k Ax Ay Az AJ AK AL).bind fun AF=>((qX.f k Ax Ay Az AJ AK AL).bind fun AD=>(if(AF == AD)=true then((zf.f Ax Ay Az).bind fun bt345=>((zg.f k Ax Ay Az bt345.1 bt345.2.1 bt345.2.2).bind fun AW=>(if AW=true then((zf.f Ax Ay Az).bind fun bt353=>((qX.f k bt353.1 bt353.2.1 bt353.2.2 Ax Ay Az).bind fun AG=>(if AG=true then((qZ.f k).bind fun AC=>(some AC)) else(some false)))) else(some false)))) else(some false)))) else(some false))
end
def qt.f(k : Nat)(a0_0 : Int)(l0_1 : List (vP))(l0_2 : List (zo))(a1_0 : Int)(l1_1 : List (vP))(l1_2 : List (zo)) : Option (Bool):=(vr.f k a0_0 l0_1 l0_2).bind fun Bq=>(if Bq=true then(qt.j0 k true a0_0 l0_1 l0_2 a1_0 l1_1 l1_2) else((vr.f k a1_0 l1_1 l1_2).bind fun AX=>(qt.j0 k AX a0_0 l0_1 l0_2 a1_0 l1_1 l1_2)))
theorem qt.mono_l : ∀ k,(∀ y0 y1 y2 y3 y4 y5 y6,qR (qt.j0 k y0 y1 y2 y3 y4 y5 y6) (qt.j0 (k + 1) y0 y1 y2 y3 y4 y5 y6))∧(∀ y0 y1 y2 y3 y4 y5 y6,qR (qt.j1 k y0 y1 y2 y3 y4 y5 y6) (qt.j1 (k + 1) y0 y1 y2 y3 y4 y5 y6))
 | 0=>⟨fun _ _ _ _ _ _ _ r h=>by simp [qt.j0] at h,fun _ _ _ _ _ _ _ r h=>by simp [qt.j1] at h⟩
 | k + 1=>by
  obtain⟨ih0,ih1⟩:=qt.mono_l k;refine⟨?_,?_⟩
  ·intro y0 y1 y2 y3 y4 y5 y6
   unfold qt.j0
   repeat' first
   | (with_reducible exact ih0 _ _ _ _ _ _ _)
   | (with_reducible exact ih1 _ _ _ _ _ _ _)
   | (with_reducible exact qZ.mono _)
   | (with_reducible exact qx.mono _ _ _ _)
   | (with_reducible exact vr.mono _ _ _ _)
   | (with_reducible exact qX.mono _ _ _ _ _ _ _)
   | (with_reducible exact vz.mono _ _ _ _)
   | (with_reducible exact zg.mono _ _ _ _ _ _ _)
   | (with_reducible exact qR.refl _)
   | (with_reducible exact qR.none _)
   | (with_reducible refine qR.ite ?_ ?_)
   | (with_reducible refine qR.bind ?_ (fun _=>?_))
   | exact ih0 _ _ _ _ _ _ _
   | exact ih1 _ _ _ _ _ _ _
   | exact qZ.mono _
   | exact qx.mono _ _ _ _
   | exact vr.mono _ _ _ _
   | exact qX.mono _ _ _ _ _ _ _
   | exact vz.mono _ _ _ _
   | exact zg.mono _ _ _ _ _ _ _
   | exact qR.none _
   | refine qR.ite ?_ ?_
   | refine qR.bind ?_ (fun _=>?_)
  ·intro y0 y1 y2 y3 y4 y5 y6
   unfold qt.j1
   repeat' first
   | (with_reducible exact ih0 _ _ _ _ _ _ _)
   | (with_reducible exact ih1 _ _ _ _ _ _ _)
   | (with_reducible exact qZ.mono _)
   | (with_reducible exact qx.mono _ _ _ _)
   | (with_reducible exact vr.mono _ _ _ _)
   | (with_reducible exact qX.mono _ _ _ _ _ _ _)
   | (with_reducible exact vz.mono _ _ _ _)
   | (with_reducible exact zg.mono _ _ _ _ _ _ _)
   | (with_reducible exact qR.refl _)
   | (with_reducible exact qR.none _)
   | (with_reducible refine qR.ite ?_ ?_)
   | (with_reducible refine qR.bind ?_ (fun _=>?_))
   | exact ih0 _ _ _ _ _ _ _
   | exact ih1 _ _ _ _ _ _ _
   | exact qZ.mono _
   | exact qx.mono _ _ _ _
   | exact vr.mono _ _ _ _
   | exact qX.mono _ _ _ _ _ _ _
   | exact vz.mono _ _ _ _
   | exact zg.mono _ _ _ _ _ _ _
   | exact qR.none _
   | refine qR.ite ?_ ?_
   | refine qR.bind ?_ (fun _=>?_)
theorem qt.mono : ∀ a0 a1 a2 a3 a4 a5 k,qR (qt.f k a0 a1 a2 a3 a4 a5) (qt.f (k + 1) a0 a1 a2 a3 a4 a5):=by
 intro a0 a1 a2 a3 a4 a5 k;obtain⟨ih0,ih1⟩:=qt.mono_l k;unfold qt.f
 repeat' first
  | (with_reducible exact ih0 _ _ _ _ _ _ _)
  | (with_reducible exact ih1 _ _ _ _ _ _ _)
  | (with_reducible exact qZ.mono _)
  | (with_reducible exact qx.mono _ _ _ _)
  | (with_reducible exact vr.mono _ _ _ _)
  | (with_reducible exact qX.mono _ _ _ _ _ _ _)
  | (with_reducible exact vz.mono _ _ _ _)
  | (with_reducible exact zg.mono _ _ _ _ _ _ _)
  | (with_reducible exact qR.refl _)
  | (with_reducible exact qR.none _)
  | (with_reducible refine qR.ite ?_ ?_)
  | (with_reducible refine qR.bind ?_ (fun _=>?_))
  | exact ih0 _ _ _ _ _ _ _
  | exact ih1 _ _ _ _ _ _ _
  | exact qZ.mono _
  | exact qx.mono _ _ _ _
  | exact vr.mono _ _ _ _
  | exact qX.mono _ _ _ _ _ _ _
  | exact vz.mono _ _ _ _
  | exact zg.mono _ _ _ _ _ _ _
  | exact qR.none _
  | refine qR.ite ?_ ?_
  | refine qR.bind ?_ (fun _=>?_)
def qt.T6 : Bool × List (List Nat × List Nat):=(true,[([],[]),([0],[0]),([],[]),([1,2],[1,2]),([3,1],[3]),([4],[4]),([4],[4]),([5,6,4,4],[4,5,6]),([4],[4]),([4],[4]),([8,9,7,4],[4,8,9]),([7,10,4],[4,7,10]),([4,11],[4,11]),([12,10],[12]),([13],[13]),([13],[13]),([15,13,13],[13,15]),([14,16,16,13],[13,14,16]),([13,17],[13,17]),([18,17],[18]),([19],[19]),([20,19,19],[19,20]),([19],[19]),([21,22,21,19],[19,21,22]),([19,23],[19,23]),([24,23],[24]),([25,25],[25]),([25,26],[25,26]),([27,26,0,1,2,3,4,5,6,7,8,9,10,11,12,13,14,15,16,17,18,19,20,21,22,23,24,25,26,27],[27])])
def qt.B6 : List Nat:=[0,1,0,7,15,31,31,127,31,31,1023,2047,4095,8191,16383,16383,49151,131071,262143,524287,1048575,2097151,1048575,8388607,16777215,33554431,67108863,134217727,268435455]
theorem qt.tab6 : jA .any (opsOf Tryd.f8 6)=qt.T6:=by kernel_rfl
theorem qt.bits6 : Qd qt.T6.2 qt.B6=true:=by kernel_rfl
set_option maxHeartbeats 8000000 in
set_option maxRecDepth 100000 in
theorem qt.calls(k : Nat)(a0_0 : Int)(Ag : Option Addr)(Ah : Nat)(l0_1 : List (vP))(Ai : Option Addr)(Aj : Nat)(l0_2 : List (zo))(a1_0 : Int)(Ar : Option Addr)(As : Nat)(l1_1 : List (vP))(At : Option Addr)(Au : Nat)(l1_2 : List (zo))(r : Bool)(w : World)(hr0_1 : Kd.C zM w Ag l0_1.length l0_1)(hc0_1 : l0_1.length≤Ah)(hr0_2 : Kd.C jW w Ai l0_2.length l0_2)(hc0_2 : l0_2.length≤Aj)(hr1_1 : Kd.C zM w Ar l1_1.length l1_1)(hc1_1 : l1_1.length≤As)(hr1_2 : Kd.C jW w At l1_2.length l1_2)(hc1_2 : l1_2.length≤Au)(h : qt.f k a0_0 l0_1 l0_2 a1_0 l1_1 l1_2=some r)(hT : Qp w) :
 Calls Tryd.prog 8 #[.agg #[.int .i64 a0_0,.slice Ag l0_1.length Ah,.slice Ai l0_2.length Aj],.agg #[.int .i64 a1_0,.slice Ar l1_1.length As,.slice At l1_2.length Au]] w fun e w'=>e = .returned (.bool r)∧Below w.heap.size w w':=by
 have HT:=qb.mk hT;clear hT;have hu35:=Tryd.underlying35;have HR0_1:=qb.mk hr0_1;have Av:=qb.mk hc0_1;clear hr0_1 hc0_1;have HR0_2:=qb.mk hr0_2;have Aw:=qb.mk hc0_2;clear hr0_2 hc0_2;have HR1_1:=qb.mk hr1_1;have AM:=qb.mk hc1_1;clear hr1_1 hc1_1;have HR1_2:=qb.mk hr1_2;have AP:=qb.mk hc1_2;clear hr1_2 hc1_2;have HB:=qb.mk (Below.refl w.heap.size w);have H : ((vr.f k a0_0 l0_1 l0_2).bind fun Bq=>(if Bq=true then(qt.j0 k true a0_0 l0_1 l0_2 a1_0 l1_1 l1_2) else((vr.f k a1_0 l1_1 l1_2).bind fun AX=>(qt.j0 k AX a0_0 l0_1 l0_2 a1_0 l1_1 l1_2))))=some r:=h;clear h;have HC3:=qb.mk H;clear H;go_enter Tryd.func8,Tryd.ntmps8
 go_upto_region 1 with (first|((with_reducible refine vE (N:=2) rfl ?_);refine vD ?hg (N:=2) ?hd (cs:=#[.int .i64 a0_0,.slice Ag l0_1.length Ah,.slice Ai l0_2.length Aj]) (t:=35) ?hr ?_;(case hd=>rfl);(case hg=>rfl);(case hr=>first|(go_simp;done)|(go_simp;rfl));intro Ac hg w4 hbox hb;have Ao:=qb.mk (qB (by repeat(first|(with_reducible first|exact HB.out|apply qd|apply qa|apply qc)|exact HB.out)) hb);have Ap:=qb.mk (hbox);have Aq:=qb.mk ((by rw [hg];exact(qG (by repeat(first|(with_reducible first|exact HB.out|apply qd|apply qa|apply qc)|exact HB.out))) : w.heap.size≤Ac));have AE:=qb.mk ((by rw [hg];exact(qG (by repeat(first|(with_reducible first|exact HB.out|apply qd|apply qa|apply qc)|exact HB.out))) : w.heap.size≤Ac));clear HB;have HB:=Ao;have Aa:=Ap;have GW336:=Aq;have Ad:=AE;clear Ao Ap Aq AE;clear hb hbox hg)|((with_reducible refine vE (N:=3) rfl ?_);refine vD ?hg (N:=3) ?hd (cs:=#[.int .i64 a1_0,.slice Ar l1_1.length As,.slice At l1_2.length Au]) (t:=35) ?hr ?_;(case hd=>rfl);(case hg=>rfl);(case hr=>first|(go_simp;done)|(go_simp;rfl));intro Af hg w5 hbox hb;have Ao:=qb.mk (qJ (g:=Ac) (o:=.cells #[.int .i64 a0_0,.slice Ag l0_1.length Ah,.slice Ai l0_2.length Aj] 35 (0,0)) (by(with_reducible repeat(first|refine qp ?_ _|refine qu ?_|refine qo ?_ _));exact Aa.out) hb);have Ap:=qb.mk (qB (by repeat(first|(with_reducible first|exact HB.out|apply qd|apply qa|apply qc|refine qh ?_ Ad.out)|exact HB.out)) hb);have Aq:=qb.mk (hbox);have AE:=qb.mk ((by rw [hg];exact(qG (by repeat(first|(with_reducible first|exact HB.out|apply qd|apply qa|apply qc|refine qh ?_ Ad.out)|exact HB.out))) : w.heap.size≤Af));have AH:=qb.mk ((by rw [hg];exact(qG (by repeat(first|(with_reducible first|exact HB.out|apply qd|apply qa|apply qc|refine qh ?_ Ad.out)|exact HB.out))) : w.heap.size≤Af));have Bb:=qb.mk ((by rw [hg];exact Nat.ne_of_lt (zv (g:=Ac) (o:=.cells #[.int .i64 a0_0,.slice Ag l0_1.length Ah,.slice Ai l0_2.length Aj] 35 (0,0)) (by(with_reducible repeat(first|refine qp ?_ _|refine qu ?_|refine qo ?_ _));exact Aa.out)) : Ac≠Af));have Bc:=qb.mk ((by rw [hg];exact Nat.ne_of_gt (zv (g:=Ac) (o:=.cells #[.int .i64 a0_0,.slice Ag l0_1.length Ah,.slice Ai l0_2.length Aj] 35 (0,0)) (by(with_reducible repeat(first|refine qp ?_ _|refine qu ?_|refine qo ?_ _));exact Aa.out)) : Af≠Ac));clear Aa;clear HB;have Aa:=Ao;have HB:=Ap;have Ab:=Aq;have GW337:=AE;have Ae:=AH;have AU:=Bb;have AV:=Bc;clear Ao Ap Aq AE AH Bb Bc;clear hb hbox hg))
 (try simp only [Act.put,qSa,qSb,qSc])
 go_cut [11] (fun v11 wc=>∃ (kq : Nat) (Bh : Bool),v11 = .bool Bh∧qb (qt.j0 kq Bh a0_0 l0_1 l0_2 a1_0 l1_1 l1_2=some r)∧qb (kq≤k)∧qb (wc.heap[Ac]? = some (.cells #[.int .i64 a0_0,(.slice Ag l0_1.length Ah),(.slice Ai l0_2.length Aj)] 35 (0,0)))∧qb (wc.heap[Af]? = some (.cells #[.int .i64 a1_0,(.slice Ar l1_1.length As),(.slice At l1_2.length Au)] 35 (0,0)))∧qb (Below w.heap.size w wc))
 case first=>
  have H:=HC3.out;clear HC3;replace H:=Option.bind_eq_some_iff.mp H;obtain⟨Bq,A60,H⟩:=H;replace H : (if Bq=true then(qt.j0 k true a0_0 l0_1 l0_2 a1_0 l1_1 l1_2) else((vr.f k a1_0 l1_1 l1_2).bind fun AX=>(qt.j0 k AX a0_0 l0_1 l0_2 a1_0 l1_1 l1_2)))=some r:=H;have A6:=qb.mk A60;clear A60;by_cases c7 : Bq=true
  ·subst c7
   have H1 : (qt.j0 k true a0_0 l0_1 l0_2 a1_0 l1_1 l1_2)=some r:=by rw [if_pos rfl] at H;exact H
   clear H;have H:=H1;clear H1;have H':=qb.mk H;clear H;have hnb8:=AU.out;have hnc8:=AV.out;have Br : w5.cell? ⟨Ac,0,none⟩=some (.int .i64 a0_0):=(qe Aa.out 0).trans rfl;have Bs : w5.cell? ⟨Ac,1,none⟩=some (.slice Ag l0_1.length Ah):=(qe Aa.out 1).trans rfl;have Bt : w5.cell? ⟨Ac,2,none⟩=some (.slice Ai l0_2.length Aj):=(qe Aa.out 2).trans rfl;have hfz9_0:=qg Aa.out 0;have hfz9_1:=qg Aa.out 1;have hfz9_2:=qg Aa.out 2;go_wp2_with (first|((with_reducible refine vR (f:=32) rfl ?_);refine zx (some 7) rfl rfl Tryd.func32 (by kernel_rfl) rfl #[.agg #[.int .i64 a0_0,.slice Ag l0_1.length Ah,.slice Ai l0_2.length Aj]] rfl (by(try simp only [List.map_toArray,List.map_cons,List.map_nil]);first|done|rfl|(simp only [List.length_drop,List.length_take];rfl)) ?_;(with_reducible refine(vr.calls k a0_0 _ _ l0_1 _ _ l0_2 true _ ?side1 ?side2 ?side3 ?side4 A6.out).mono ?_);(case side1=>repeat(first|exact(Kd.vk HR0_1.out HB.out)|(with_reducible refine Kd.qS ?_ _)|(with_reducible refine Kd.qU ?_ _)|(with_reducible refine Kd.vq ?_)));(case side2=>exact Av.out);(case side3=>repeat(first|exact(Kd.vk HR0_2.out HB.out)|(with_reducible refine Kd.qS ?_ _)|(with_reducible refine Kd.qU ?_ _)|(with_reducible refine Kd.vq ?_)));(case side4=>exact Aw.out);rintro e w10 ⟨rfl,hb⟩;refine⟨_,rfl,?_⟩;have Ao:=qb.mk (qJ (g:=Ac) (o:=.cells #[.int .i64 a0_0,.slice Ag l0_1.length Ah,.slice Ai l0_2.length Aj] 35 (0,0)) (by(with_reducible repeat(first|refine qp ?_ _|refine qu ?_|refine qo ?_ _));exact Aa.out) hb);have Ap:=qb.mk (qJ (g:=Af) (o:=.cells #[.int .i64 a1_0,.slice Ar l1_1.length As,.slice At l1_2.length Au] 35 (0,0)) (by(with_reducible repeat(first|refine qp ?_ _|refine qu ?_|refine qo ?_ _));exact Ab.out) hb);have Aq:=qb.mk (qB (by repeat(first|(with_reducible first|exact HB.out|apply qd|apply qa|apply qc|refine qh ?_ Ad.out|refine qh ?_ Ae.out)|exact HB.out)) hb);clear Aa;clear Ab;clear HB;have Aa:=Ao;have Ab:=Ap;have HB:=Aq;clear Ao Ap Aq;(try clear hb);(try clear hb2);(try clear hk);(try clear hi)))
   go_meet
   case rel=>exact⟨_,(true),(by first|rfl|(simp;done)|(simp [*];done)),H',⟨by first|omega|exact Nat.le_refl _⟩,⟨by(with_reducible repeat(first|refine qp ?_ _|refine qu ?_|refine qo ?_ _));exact Aa.out⟩,⟨by(with_reducible repeat(first|refine qp ?_ _|refine qu ?_|refine qo ?_ _));exact Ab.out⟩,⟨by repeat(first|(with_reducible first|exact HB.out|apply qd|apply qa|apply qc|refine qh ?_ Ad.out|refine qh ?_ Ae.out)|exact HB.out)⟩⟩
  ·replace c7:=Bool.eq_false_iff.mpr c7
   subst c7;have H1 : ((vr.f k a1_0 l1_1 l1_2).bind fun AX=>(qt.j0 k AX a0_0 l0_1 l0_2 a1_0 l1_1 l1_2))=some r:=by rw [if_neg (show ¬ (false=true) by decide)] at H;exact H
   clear H;have H:=H1;clear H1;replace H:=Option.bind_eq_some_iff.mp H;obtain⟨AX,A110,H⟩:=H;replace H : (qt.j0 k AX a0_0 l0_1 l0_2 a1_0 l1_1 l1_2)=some r:=H;have A11:=qb.mk A110;clear A110;have H':=qb.mk H;clear H;have hnb12:=AU.out;have hnc12:=AV.out;have Bi : w5.cell? ⟨Ac,0,none⟩=some (.int .i64 a0_0):=(qe Aa.out 0).trans rfl;have Bj : w5.cell? ⟨Ac,1,none⟩=some (.slice Ag l0_1.length Ah):=(qe Aa.out 1).trans rfl;have Bk : w5.cell? ⟨Ac,2,none⟩=some (.slice Ai l0_2.length Aj):=(qe Aa.out 2).trans rfl;have hfz13_0:=qg Aa.out 0;have hfz13_1:=qg Aa.out 1;have hfz13_2:=qg Aa.out 2;go_wp2_with (first|((with_reducible refine vR (f:=32) rfl ?_);refine zx (some 7) rfl rfl Tryd.func32 (by kernel_rfl) rfl #[.agg #[.int .i64 a0_0,.slice Ag l0_1.length Ah,.slice Ai l0_2.length Aj]] rfl (by(try simp only [List.map_toArray,List.map_cons,List.map_nil]);first|done|rfl|(simp only [List.length_drop,List.length_take];rfl)) ?_;(with_reducible refine(vr.calls k a0_0 _ _ l0_1 _ _ l0_2 false _ ?side1 ?side2 ?side3 ?side4 A6.out).mono ?_);(case side1=>repeat(first|exact(Kd.vk HR0_1.out HB.out)|(with_reducible refine Kd.qS ?_ _)|(with_reducible refine Kd.qU ?_ _)|(with_reducible refine Kd.vq ?_)));(case side2=>exact Av.out);(case side3=>repeat(first|exact(Kd.vk HR0_2.out HB.out)|(with_reducible refine Kd.qS ?_ _)|(with_reducible refine Kd.qU ?_ _)|(with_reducible refine Kd.vq ?_)));(case side4=>exact Aw.out);rintro e w14 ⟨rfl,hb⟩;refine⟨_,rfl,?_⟩;have Ao:=qb.mk (qJ (g:=Ac) (o:=.cells #[.int .i64 a0_0,.slice Ag l0_1.length Ah,.slice Ai l0_2.length Aj] 35 (0,0)) (by(with_reducible repeat(first|refine qp ?_ _|refine qu ?_|refine qo ?_ _));exact Aa.out) hb);have Ap:=qb.mk (qJ (g:=Af) (o:=.cells #[.int .i64 a1_0,.slice Ar l1_1.length As,.slice At l1_2.length Au] 35 (0,0)) (by(with_reducible repeat(first|refine qp ?_ _|refine qu ?_|refine qo ?_ _));exact Ab.out) hb);have Aq:=qb.mk (qB (by repeat(first|(with_reducible first|exact HB.out|apply qd|apply qa|apply qc|refine qh ?_ Ad.out|refine qh ?_ Ae.out)|exact HB.out)) hb);clear Aa;clear Ab;clear HB;have Aa:=Ao;have Ab:=Ap;have HB:=Aq;clear Ao Ap Aq;(try clear hb);(try clear hb2);(try clear hk);(try clear hi);have Bm : w14.cell? ⟨Af,0,none⟩=some (.int .i64 a1_0):=(qe Ab.out 0).trans rfl;have Bn : w14.cell? ⟨Af,1,none⟩=some (.slice Ar l1_1.length As):=(qe Ab.out 1).trans rfl;have Bo : w14.cell? ⟨Af,2,none⟩=some (.slice At l1_2.length Au):=(qe Ab.out 2).trans rfl;have hfz15_0:=qg Ab.out 0;have hfz15_1:=qg Ab.out 1;have hfz15_2:=qg Ab.out 2)|(go_at_call 32;(with_reducible refine(vr.calls k a1_0 _ _ l1_1 _ _ l1_2 AX _ ?side1 ?side2 ?side3 ?side4 A11.out).mono ?_);(case side1=>repeat(first|exact(Kd.vk HR1_1.out HB.out)|(with_reducible refine Kd.qS ?_ _)|(with_reducible refine Kd.qU ?_ _)|(with_reducible refine Kd.vq ?_)));(case side2=>exact AM.out);(case side3=>repeat(first|exact(Kd.vk HR1_2.out HB.out)|(with_reducible refine Kd.qS ?_ _)|(with_reducible refine Kd.qU ?_ _)|(with_reducible refine Kd.vq ?_)));(case side4=>exact AP.out);rintro e w16 ⟨rfl,hb⟩;have Ao:=qb.mk (qJ (g:=Ac) (o:=.cells #[.int .i64 a0_0,.slice Ag l0_1.length Ah,.slice Ai l0_2.length Aj] 35 (0,0)) (by(with_reducible repeat(first|refine qp ?_ _|refine qu ?_|refine qo ?_ _));exact Aa.out) hb);have Ap:=qb.mk (qJ (g:=Af) (o:=.cells #[.int .i64 a1_0,.slice Ar l1_1.length As,.slice At l1_2.length Au] 35 (0,0)) (by(with_reducible repeat(first|refine qp ?_ _|refine qu ?_|refine qo ?_ _));exact Ab.out) hb);have Aq:=qb.mk (qB (by repeat(first|(with_reducible first|exact HB.out|apply qd|apply qa|apply qc|refine qh ?_ Ad.out|refine qh ?_ Ae.out)|exact HB.out)) hb);clear Aa;clear Ab;clear HB;have Aa:=Ao;have Ab:=Ap;have HB:=Aq;clear Ao Ap Aq;(try clear hb);(try clear hb2);(try clear hk);(try clear hi)))
   go_meet
   case rel=>exact⟨_,(AX),(by first|rfl|(simp;done)|(simp [*];done)),H',⟨by first|omega|exact Nat.le_refl _⟩,⟨by(with_reducible repeat(first|refine qp ?_ _|refine qu ?_|refine qo ?_ _));exact Aa.out⟩,⟨by(with_reducible repeat(first|refine qp ?_ _|refine qu ?_|refine qo ?_ _));exact Ab.out⟩,⟨by repeat(first|(with_reducible first|exact HB.out|apply qd|apply qa|apply qc|refine qh ?_ Ad.out|refine qh ?_ Ae.out)|exact HB.out)⟩⟩
 case rest=>
  clear HC3;try clear c1
  try clear p2
  try clear c3
  try clear c7
  try clear c8
  try clear c12
  try clear Bi
  try clear Bj
  try clear Bk
  try clear Bm
  try clear Bn
  try clear Bo
  try clear Br
  try clear Bs
  try clear Bt
  try clear hfz13_0
  try clear hfz13_1
  try clear hfz13_2
  try clear hfz15_0
  try clear hfz15_1
  try clear hfz15_2
  try clear hfz9_0
  try clear hfz9_1
  try clear hfz9_2
  obtain⟨kq,Bh,rfl,HA,HJ2,Aa,Ab,HB⟩:=hcut
  cases kq with
  | zero=>exact absurd HA.out (by simp [qt.j0])
  | succ kj2=>
   have H:=HA.out;clear HA;simp only [qt.j0] at H;by_cases c17 : Bh=true
   ·subst c17
    have H1 : ((qZ.f kj2).bind fun Bp=>(some Bp))=some r:=by rw [if_pos rfl] at H;exact H
    clear H;have H:=H1;clear H1;replace H:=Option.bind_eq_some_iff.mp H;obtain⟨Bp,A180,H⟩:=H;replace H : (some Bp)=some r:=H;have A18:=qb.mk A180;clear A180;obtain rfl:=Option.some.inj H;go_wp2_with (first|((with_reducible refine vR (f:=33) rfl ?_);refine zx (some 12) rfl rfl Tryd.func33 (by kernel_rfl) rfl #[] rfl (by(try simp only [List.map_toArray,List.map_cons,List.map_nil]);first|done|rfl|(simp only [List.length_drop,List.length_take];rfl)) ?_;(with_reducible refine(qZ.calls kj2  Bp _ A18.out (HT.out.go (by repeat(first|(with_reducible first|exact HB.out|apply qd|apply qa|apply qc|refine qh ?_ Ad.out|refine qh ?_ Ae.out)|exact HB.out)))).mono ?_);rintro e w19 ⟨rfl,hb⟩;refine⟨_,rfl,?_⟩;have Ao:=qb.mk (qJ (g:=Ac) (o:=.cells #[.int .i64 a0_0,.slice Ag l0_1.length Ah,.slice Ai l0_2.length Aj] 35 (0,0)) (by(with_reducible repeat(first|refine qp ?_ _|refine qu ?_|refine qo ?_ _));exact Aa.out) hb);have Ap:=qb.mk (qJ (g:=Af) (o:=.cells #[.int .i64 a1_0,.slice Ar l1_1.length As,.slice At l1_2.length Au] 35 (0,0)) (by(with_reducible repeat(first|refine qp ?_ _|refine qu ?_|refine qo ?_ _));exact Ab.out) hb);have Aq:=qb.mk (qB (by repeat(first|(with_reducible first|exact HB.out|apply qd|apply qa|apply qc|refine qh ?_ Ad.out|refine qh ?_ Ae.out)|exact HB.out)) hb);clear Aa;clear Ab;clear HB;have Aa:=Ao;have Ab:=Ap;have HB:=Aq;clear Ao Ap Aq;(try clear hb);(try clear hb2);(try clear hk);(try clear hi)))
    go_ret
    exact⟨by first|rfl|(simp [qK,qL] <;> rfl)|(simp [*,qK,qL] <;> rfl),by repeat(first|(with_reducible first|exact HB.out|apply qd|apply qa|apply qc|refine qh ?_ Ad.out|refine qh ?_ Ae.out)|exact HB.out)⟩
   ·replace c17:=Bool.eq_false_iff.mpr c17
    subst c17;have H1 : ((qx.f kj2 a0_0 l0_1 l0_2).bind fun Bd=>(if Bd=true then(qt.j1 kj2 0 a0_0 l0_1 l0_2 a1_0 l1_1 l1_2) else(qt.j1 kj2 3 a0_0 l0_1 l0_2 a1_0 l1_1 l1_2)))=some r:=by rw [if_neg (show ¬ (false=true) by decide)] at H;exact H
    clear H;have H:=H1;clear H1;replace H:=Option.bind_eq_some_iff.mp H;obtain⟨Bd,A200,H⟩:=H;replace H : (if Bd=true then(qt.j1 kj2 0 a0_0 l0_1 l0_2 a1_0 l1_1 l1_2) else(qt.j1 kj2 3 a0_0 l0_1 l0_2 a1_0 l1_1 l1_2))=some r:=H;have A20:=qb.mk A200;clear A200;have Bz:=qb.mk H;clear H;have hnb22:=AU.out;have hnc22:=AV.out;have Bv : wc.cell? ⟨Ac,0,none⟩=some (.int .i64 a0_0):=(qe Aa.out 0).trans rfl;have Bw : wc.cell? ⟨Ac,1,none⟩=some (.slice Ag l0_1.length Ah):=(qe Aa.out 1).trans rfl;have Bx : wc.cell? ⟨Ac,2,none⟩=some (.slice Ai l0_2.length Aj):=(qe Aa.out 2).trans rfl;have hfz23_0:=qg Aa.out 0;have hfz23_1:=qg Aa.out 1;have hfz23_2:=qg Aa.out 2;go_upto_if 15 with (first|((with_reducible refine vR (f:=35) rfl ?_);refine zx (some 14) rfl rfl Tryd.func35 (by kernel_rfl) rfl #[.agg #[.int .i64 a0_0,.slice Ag l0_1.length Ah,.slice Ai l0_2.length Aj]] rfl (by(try simp only [List.map_toArray,List.map_cons,List.map_nil]);first|done|rfl|(simp only [List.length_drop,List.length_take];rfl)) ?_;(with_reducible refine(qx.calls kj2 a0_0 _ _ l0_1 _ _ l0_2 Bd _ ?side1 ?side2 ?side3 ?side4 A20.out).mono ?_);(case side1=>repeat(first|exact(Kd.vk HR0_1.out HB.out)|(with_reducible refine Kd.qS ?_ _)|(with_reducible refine Kd.qU ?_ _)|(with_reducible refine Kd.vq ?_)));(case side2=>exact Av.out);(case side3=>repeat(first|exact(Kd.vk HR0_2.out HB.out)|(with_reducible refine Kd.qS ?_ _)|(with_reducible refine Kd.qU ?_ _)|(with_reducible refine Kd.vq ?_)));(case side4=>exact Aw.out);rintro e w24 ⟨rfl,hb⟩;refine⟨_,rfl,?_⟩;have Ao:=qb.mk (qJ (g:=Ac) (o:=.cells #[.int .i64 a0_0,.slice Ag l0_1.length Ah,.slice Ai l0_2.length Aj] 35 (0,0)) (by(with_reducible repeat(first|refine qp ?_ _|refine qu ?_|refine qo ?_ _));exact Aa.out) hb);have Ap:=qb.mk (qJ (g:=Af) (o:=.cells #[.int .i64 a1_0,.slice Ar l1_1.length As,.slice At l1_2.length Au] 35 (0,0)) (by(with_reducible repeat(first|refine qp ?_ _|refine qu ?_|refine qo ?_ _));exact Ab.out) hb);have Aq:=qb.mk (qB (by repeat(first|(with_reducible first|exact HB.out|apply qd|apply qa|apply qc|refine qh ?_ Ad.out|refine qh ?_ Ae.out)|exact HB.out)) hb);clear Aa;clear Ab;clear HB;have Aa:=Ao;have Ab:=Ap;have HB:=Aq;clear Ao Ap Aq;(try clear hb);(try clear hb2);(try clear hk);(try clear hi)))
    (try simp only [Act.put,qSa,qSb,qSc])
    go_cut [5] (fun v5 wc=>∃ (kq : Nat) (AQ : Int),v5 = .int .i64 AQ∧qb (qt.j1 kq AQ a0_0 l0_1 l0_2 a1_0 l1_1 l1_2=some r)∧qb (kq≤kj2)∧qb (wc.heap[Ac]? = some (.cells #[.int .i64 a0_0,(.slice Ag l0_1.length Ah),(.slice Ai l0_2.length Aj)] 35 (0,0)))∧qb (wc.heap[Af]? = some (.cells #[.int .i64 a1_0,(.slice Ar l1_1.length As),(.slice At l1_2.length Au)] 35 (0,0)))∧qb (Below w.heap.size w wc))
    case first=>
     have H:=Bz.out;clear Bz;by_cases c25 : Bd=true
     ·subst c25
      have H1 : (qt.j1 kj2 0 a0_0 l0_1 l0_2 a1_0 l1_1 l1_2)=some r:=by rw [if_pos rfl] at H;exact H
      clear H;have H:=H1;clear H1;have H':=qb.mk H;clear H;go_wp2
      go_meet
      case rel=>exact⟨_,(0),(by first|rfl|(simp;done)|(simp [*];done)),H',⟨by have:=HJ2.out;first|omega|exact Nat.le_refl _⟩,⟨by(with_reducible repeat(first|refine qp ?_ _|refine qu ?_|refine qo ?_ _));exact Aa.out⟩,⟨by(with_reducible repeat(first|refine qp ?_ _|refine qu ?_|refine qo ?_ _));exact Ab.out⟩,⟨by repeat(first|(with_reducible first|exact HB.out|apply qd|apply qa|apply qc|refine qh ?_ Ad.out|refine qh ?_ Ae.out)|exact HB.out)⟩⟩
     ·replace c25:=Bool.eq_false_iff.mpr c25
      subst c25;have H1 : (qt.j1 kj2 3 a0_0 l0_1 l0_2 a1_0 l1_1 l1_2)=some r:=by rw [if_neg (show ¬ (false=true) by decide)] at H;exact H
      clear H;have H:=H1;clear H1;have H':=qb.mk H;clear H;go_wp2
      go_meet
      case rel=>exact⟨_,(3),(by first|rfl|(simp;done)|(simp [*];done)),H',⟨by have:=HJ2.out;first|omega|exact Nat.le_refl _⟩,⟨by(with_reducible repeat(first|refine qp ?_ _|refine qu ?_|refine qo ?_ _));exact Aa.out⟩,⟨by(with_reducible repeat(first|refine qp ?_ _|refine qu ?_|refine qo ?_ _));exact Ab.out⟩,⟨by repeat(first|(with_reducible first|exact HB.out|apply qd|apply qa|apply qc|refine qh ?_ Ad.out|refine qh ?_ Ae.out)|exact HB.out)⟩⟩
    case rest=>
     clear Bz;try clear c1
     try clear c2
     try clear p2
     try clear c3
     try clear c7
     try clear c8
     try clear c12
     try clear c17
     try clear c22
     try clear c25
     try clear Bi
     try clear Bj
     try clear Bk
     try clear Bm
     try clear Bn
     try clear Bo
     try clear Bv
     try clear Bw
     try clear Bx
     try clear Br
     try clear Bs
     try clear Bt
     try clear hfz13_0
     try clear hfz13_1
     try clear hfz13_2
     try clear hfz15_0
     try clear hfz15_1
     try clear hfz15_2
     try clear hfz23_0
     try clear hfz23_1
     try clear hfz23_2
     try clear hfz9_0
     try clear hfz9_1
     try clear hfz9_2
     try clear p2
     obtain⟨kq,AQ,rfl,HA,HJ20,Aa,Ab,HB⟩:=hcut
     cases kq with
     | zero=>exact absurd HA.out (by simp [qt.j1])
     | succ kj20=>
      have H:=HA.out;clear HA;simp only [qt.j1] at H;replace H:=Option.bind_eq_some_iff.mp H;obtain⟨AR,A260,H⟩:=H;replace H : (if AR=AQ then((zg.f kj20 a0_0 l0_1 l0_2 a1_0 l1_1 l1_2).bind fun AF=>((qX.f kj20 a0_0 l0_1 l0_2 a1_0 l1_1 l1_2).bind fun AD=>(if(AF == AD)=true then((zf.f a0_0 l0_1 l0_2).bind fun bt345=>((zg.f kj20 a0_0 l0_1 l0_2 bt345.1 bt345.2.1 bt345.2.2).bind fun AW=>(if AW=true then((zf.f a0_0 l0_1 l0_2).bind fun bt353=>((qX.f kj20 bt353.1 bt353.2.1 bt353.2.2 a0_0 l0_1 l0_2).bind fun AG=>(if AG=true then((qZ.f kj20).bind fun AC=>(some AC)) else(some false)))) else(some false)))) else(some false)))) else(some false))=some r:=H;have A26:=qb.mk A260;clear A260;by_cases BA : AR=AQ
      ·rw [if_pos BA] at H
       have c27b0 : (AR == AQ)=true:=beq_iff_eq.mpr BA;have c27b1 : (AR != AQ)=false:=bne_eq_false_iff_eq.mpr BA;clear BA;replace H:=Option.bind_eq_some_iff.mp H;obtain⟨AF,A280,H⟩:=H;replace H : ((qX.f kj20 a0_0 l0_1 l0_2 a1_0 l1_1 l1_2).bind fun AD=>(if(AF == AD)=true then((zf.f a0_0 l0_1 l0_2).bind fun bt345=>((zg.f kj20 a0_0 l0_1 l0_2 bt345.1 bt345.2.1 bt345.2.2).bind fun AW=>(if AW=true then((zf.f a0_0 l0_1 l0_2).bind fun bt353=>((qX.f kj20 bt353.1 bt353.2.1 bt353.2.2 a0_0 l0_1 l0_2).bind fun AG=>(if AG=true then((qZ.f kj20).bind fun AC=>(some AC)) else(some false)))) else(some false)))) else(some false)))=some r:=H;have A28:=qb.mk A280;clear A280;replace H:=Option.bind_eq_some_iff.mp H;obtain⟨AD,A290,H⟩:=H;replace H : (if(AF == AD)=true then((zf.f a0_0 l0_1 l0_2).bind fun bt345=>((zg.f kj20 a0_0 l0_1 l0_2 bt345.1 bt345.2.1 bt345.2.2).bind fun AW=>(if AW=true then((zf.f a0_0 l0_1 l0_2).bind fun bt353=>((qX.f kj20 bt353.1 bt353.2.1 bt353.2.2 a0_0 l0_1 l0_2).bind fun AG=>(if AG=true then((qZ.f kj20).bind fun AC=>(some AC)) else(some false)))) else(some false)))) else(some false))=some r:=H;have A29:=qb.mk A290;clear A290;by_cases Bu : (AF == AD)=true
       ·rw [if_pos Bu] at H
        have c30b0 : (AF == AD)=true:=Bu
        (try(have c30b1 : decide (AF=AD)=true:=by simpa using Bu))
        (try(have c30b2 : (AF == AD)=true:=by simpa using Bu))
        clear Bu;replace H:=Option.bind_eq_some_iff.mp H;obtain⟨⟨AY,AZ,Ba⟩,A310,H⟩:=H;replace H : ((zg.f kj20 a0_0 l0_1 l0_2 AY AZ Ba).bind fun AW=>(if AW=true then((zf.f a0_0 l0_1 l0_2).bind fun bt353=>((qX.f kj20 bt353.1 bt353.2.1 bt353.2.2 a0_0 l0_1 l0_2).bind fun AG=>(if AG=true then((qZ.f kj20).bind fun AC=>(some AC)) else(some false)))) else(some false)))=some r:=H;have A31:=qb.mk A310;clear A310;replace H:=Option.bind_eq_some_iff.mp H;obtain⟨AW,A320,H⟩:=H;replace H : (if AW=true then((zf.f a0_0 l0_1 l0_2).bind fun bt353=>((qX.f kj20 bt353.1 bt353.2.1 bt353.2.2 a0_0 l0_1 l0_2).bind fun AG=>(if AG=true then((qZ.f kj20).bind fun AC=>(some AC)) else(some false)))) else(some false))=some r:=H;have A32:=qb.mk A320;clear A320;by_cases c33 : AW=true
        ·subst c33
         have H1 : ((zf.f a0_0 l0_1 l0_2).bind fun bt353=>((qX.f kj20 bt353.1 bt353.2.1 bt353.2.2 a0_0 l0_1 l0_2).bind fun AG=>(if AG=true then((qZ.f kj20).bind fun AC=>(some AC)) else(some false))))=some r:=by rw [if_pos rfl] at H;exact H
         clear H;have H:=H1;clear H1;replace H:=Option.bind_eq_some_iff.mp H;obtain⟨⟨Be,Bf,Bg⟩,A340,H⟩:=H;replace H : ((qX.f kj20 Be Bf Bg a0_0 l0_1 l0_2).bind fun AG=>(if AG=true then((qZ.f kj20).bind fun AC=>(some AC)) else(some false)))=some r:=H;have A34:=qb.mk A340;clear A340;replace H:=Option.bind_eq_some_iff.mp H;obtain⟨AG,A350,H⟩:=H;replace H : (if AG=true then((qZ.f kj20).bind fun AC=>(some AC)) else(some false))=some r:=H;have A35:=qb.mk A350;clear A350;by_cases c36 : AG=true
         ·subst c36
          have H1 : ((qZ.f kj20).bind fun AC=>(some AC))=some r:=by rw [if_pos rfl] at H;exact H
          clear H;have H:=H1;clear H1;replace H:=Option.bind_eq_some_iff.mp H;obtain⟨AC,A370,H⟩:=H;replace H : (some AC)=some r:=H;have A37:=qb.mk A370;clear A370;obtain rfl:=Option.some.inj H;try go_wp2
          have Ao:=qb.mk (qu Aa.out);have Ap:=qb.mk (qu Ab.out);have Aq:=qb.mk (qc HB.out);clear Aa;clear Ab;clear HB;have Aa:=Ao;have Ab:=Ap;have HB:=Aq;clear Ao Ap Aq;refine zS (n:=29) (S:=fun w'=>w'.cell? ⟨Ac,0,none⟩=some (.int .i64 a0_0)∧w'.cell? ⟨Ac,1,none⟩=some (.slice Ag l0_1.length Ah)∧w'.cell? ⟨Ac,2,none⟩=some (.slice Ai l0_2.length Aj)∧w'.cell? ⟨Af,0,none⟩=some (.int .i64 a1_0)∧w'.cell? ⟨Af,1,none⟩=some (.slice Ar l1_1.length As)∧w'.cell? ⟨Af,2,none⟩=some (.slice At l1_2.length Au)) (ds:=[]) #[false,false,false,false,false,false,false,false,false,false,false,false,false,false,false,false,false,false,false,false,false,false,false,false,false,false,false,false,false] (by kernel_rfl) rfl rfl ⟨(qe Aa.out 0).trans rfl,(qe Aa.out 1).trans rfl,(qe Aa.out 2).trans rfl,(qe Ab.out 0).trans rfl,(qe Ab.out 1).trans rfl,(qe Ab.out 2).trans rfl⟩ (fun hHeld=>?_);refine zu qt.tab6 qt.bits6 (fun HT_ HW_=>?_)
          generalize wc.drew=w38 at Aa Ab HB hHeld ⊢
          refine qw (i:=2) (N:=some 18) (v:=?_) (a':=?_) #[false,false,true,false,false,false,false,false,false,false,false,false,false,false,false,false,false,false,false,false,false,false,false,false,false,false,false,false,false] rfl rfl (qn HT_.out (by kernel_rfl)) (fun _ _ _ h=>h) (Or.inl ⟨by rfl,?_⟩) ?_ ?_;rotate_left
          ·intro w'
           go_simp
           with_reducible rfl
          rotate_left
          ·simp only [Act.put,qSa,qSb,qSc,qm,qq]
           rfl
          refine vZ (i:=0) (N:=some 16) (v:=?_) (a':=?_) #[true,false,true,false,false,false,false,false,false,false,false,false,false,false,false,false,false,false,false,false,false,false,false,false,false,false,false,false,false] rfl rfl (vu HT_.out HW_.out (by kernel_rfl)) (fun _ _ _ h=>h) (Or.inl ⟨by rfl,?_⟩) hHeld ?_ ?_;rotate_left
          ·rintro w' ⟨s0,s1,s2,s3,s4,s5⟩
           go_simp
           with_reducible rfl
          rotate_left
          ·simp only [Act.put,qSa,qSb,qSc,qm,qq]
           rfl
          refine zP (i:=1) (N:=some 17) #[true,true,true,false,false,false,false,false,false,false,false,false,false,false,false,false,false,false,false,false,false,false,false,false,false,false,false,false,false] rfl rfl (zm HT_.out (by kernel_rfl)) (by decide) (fun K hK=>?_);refine zy Tryd.func39 (by kernel_rfl) rfl #[.agg #[.int .i64 a0_0,.slice Ag l0_1.length Ah,.slice Ai l0_2.length Aj]] (by rfl) rfl rfl (by(try simp only [List.map_toArray,List.map_cons,List.map_nil]);first|done|rfl|(simp only [List.length_drop,List.length_take];rfl)) ?_
          with_reducible refine(vz.calls kj20 a0_0 _ _ l0_1 _ _ l0_2 AR _ ?side1 ?side2 ?side3 ?side4 A26.out (HT.out.go (by repeat(first|(with_reducible first|exact HB.out|apply qd|apply qa|apply qc|refine qh ?_ Ad.out|refine qh ?_ Ae.out)|exact HB.out)))).mono ?_
          (case side1=>repeat(first|exact(Kd.vk HR0_1.out HB.out)|(with_reducible refine Kd.qS ?_ _)|(with_reducible refine Kd.qU ?_ _)|(with_reducible refine Kd.vq ?_)))
          (case side2=>exact Av.out)
          (case side3=>repeat(first|exact(Kd.vk HR0_2.out HB.out)|(with_reducible refine Kd.qS ?_ _)|(with_reducible refine Kd.qU ?_ _)|(with_reducible refine Kd.vq ?_)))
          (case side4=>exact Aw.out)
          rintro e w39 ⟨rfl,hb⟩;refine⟨_,rfl,?_⟩;have Ao:=qb.mk (qJ (g:=Ac) (o:=.cells #[.int .i64 a0_0,.slice Ag l0_1.length Ah,.slice Ai l0_2.length Aj] 35 (0,0)) (by(with_reducible repeat(first|refine qp ?_ _|refine qu ?_|refine qo ?_ _));exact Aa.out) hb);have Ap:=qb.mk (qJ (g:=Af) (o:=.cells #[.int .i64 a1_0,.slice Ar l1_1.length As,.slice At l1_2.length Au] 35 (0,0)) (by(with_reducible repeat(first|refine qp ?_ _|refine qu ?_|refine qo ?_ _));exact Ab.out) hb);have Aq:=qb.mk (qB (by repeat(first|(with_reducible first|exact HB.out|apply qd|apply qa|apply qc|refine qh ?_ Ad.out|refine qh ?_ Ae.out)|exact HB.out)) hb);clear Aa;clear Ab;clear HB;have Aa:=Ao;have Ab:=Ap;have HB:=Aq;clear Ao Ap Aq
          (try clear hb)
          (try clear hb2)
          (try clear hk)
          (try clear hi)
          refine hK.out _ _ ⟨(qe Aa.out 0).trans rfl,(qe Aa.out 1).trans rfl,(qe Aa.out 2).trans rfl,(qe Ab.out 0).trans rfl,(qe Ab.out 1).trans rfl,(qe Ab.out 2).trans rfl⟩ (fun hHeld=>?_);clear hK K;refine zz (a':=?_) ?_ ?_;rotate_left
          ·show Act.put _ (some 17) _=_
           simp only [Act.put,qSa,qSb,qSc,qm,qq]
           rfl
          refine qw (i:=3) (N:=some 19) (v:=?_) (a':=?_) #[true,true,true,true,false,false,false,false,false,false,false,false,false,false,false,false,false,false,false,false,false,false,false,false,false,false,false,false,false] rfl rfl (qn HT_.out (by kernel_rfl)) (fun _ _ _ h=>h) (Or.inl ⟨by rfl,?_⟩) ?_ ?_;rotate_left
          ·intro w'
           go_simp
           with_reducible rfl
          rotate_left
          ·simp only [Act.put,qSa,qSb,qSc,qm,qq]
           rfl
          refine qw (i:=4) (N:=some 20) (v:=?_) (a':=?_) #[true,true,true,true,true,false,false,false,false,false,false,false,false,false,false,false,false,false,false,false,false,false,false,false,false,false,false,false,false] rfl rfl (qn HT_.out (by kernel_rfl)) (fun _ _ _ h=>h) (Or.inl ⟨by rfl,?_⟩) ?_ ?_;rotate_left
          ·intro w'
           go_simp
           with_reducible rfl
          rotate_left
          ·simp only [Act.put,qSa,qSb,qSc,qm,qq]
           rfl
          refine vZ (i:=5) (N:=some 21) (v:=?_) (a':=?_) #[true,true,true,true,true,true,false,false,false,false,false,false,false,false,false,false,false,false,false,false,false,false,false,false,false,false,false,false,false] rfl rfl (vu HT_.out HW_.out (by kernel_rfl)) (fun _ _ _ h=>h) (Or.inl ⟨by rfl,?_⟩) hHeld ?_ ?_;rotate_left
          ·rintro w' ⟨s0,s1,s2,s3,s4,s5⟩
           go_simp
           with_reducible rfl
          rotate_left
          ·simp only [Act.put,qSa,qSb,qSc,qm,qq]
           rfl
          refine vZ (i:=6) (N:=some 22) (v:=?_) (a':=?_) #[true,true,true,true,true,true,true,false,false,false,false,false,false,false,false,false,false,false,false,false,false,false,false,false,false,false,false,false,false] rfl rfl (vu HT_.out HW_.out (by kernel_rfl)) (fun _ _ _ h=>h) (Or.inl ⟨by rfl,?_⟩) hHeld ?_ ?_;rotate_left
          ·rintro w' ⟨s0,s1,s2,s3,s4,s5⟩
           go_simp
           with_reducible rfl
          rotate_left
          ·simp only [Act.put,qSa,qSb,qSc,qm,qq]
           rfl
          refine vZ (i:=8) (N:=some 24) (v:=?_) (a':=?_) #[true,true,true,true,true,true,true,false,true,false,false,false,false,false,false,false,false,false,false,false,false,false,false,false,false,false,false,false,false] rfl rfl (vu HT_.out HW_.out (by kernel_rfl)) (fun _ _ _ h=>h) (Or.inl ⟨by rfl,?_⟩) hHeld ?_ ?_;rotate_left
          ·rintro w' ⟨s0,s1,s2,s3,s4,s5⟩
           go_simp
           with_reducible rfl
          rotate_left
          ·simp only [Act.put,qSa,qSb,qSc,qm,qq]
           rfl
          refine vZ (i:=9) (N:=some 25) (v:=?_) (a':=?_) #[true,true,true,true,true,true,true,false,true,true,false,false,false,false,false,false,false,false,false,false,false,false,false,false,false,false,false,false,false] rfl rfl (vu HT_.out HW_.out (by kernel_rfl)) (fun _ _ _ h=>h) (Or.inl ⟨by rfl,?_⟩) hHeld ?_ ?_;rotate_left
          ·rintro w' ⟨s0,s1,s2,s3,s4,s5⟩
           go_simp
           with_reducible rfl
          rotate_left
          ·simp only [Act.put,qSa,qSb,qSc,qm,qq]
           rfl
          refine zP (i:=7) (N:=some 23) #[true,true,true,true,true,true,true,true,true,true,false,false,false,false,false,false,false,false,false,false,false,false,false,false,false,false,false,false,false] rfl rfl (zm HT_.out (by kernel_rfl)) (by decide) (fun K hK=>?_);refine zy Tryd.func40 (by kernel_rfl) rfl #[.agg #[.int .i64 a0_0,.slice Ag l0_1.length Ah,.slice Ai l0_2.length Aj],.agg #[.int .i64 a1_0,.slice Ar l1_1.length As,.slice At l1_2.length Au]] (by rfl) rfl rfl (by(try simp only [List.map_toArray,List.map_cons,List.map_nil]);first|done|rfl|(simp only [List.length_drop,List.length_take];rfl)) ?_
          with_reducible refine(zg.calls kj20 a0_0 _ _ l0_1 _ _ l0_2 a1_0 _ _ l1_1 _ _ l1_2 AF _ ?side1 ?side2 ?side3 ?side4 ?side5 ?side6 ?side7 ?side8 A28.out).mono ?_
          (case side1=>repeat(first|exact(Kd.vk HR0_1.out HB.out)|(with_reducible refine Kd.qS ?_ _)|(with_reducible refine Kd.qU ?_ _)|(with_reducible refine Kd.vq ?_)))
          (case side2=>exact Av.out)
          (case side3=>repeat(first|exact(Kd.vk HR0_2.out HB.out)|(with_reducible refine Kd.qS ?_ _)|(with_reducible refine Kd.qU ?_ _)|(with_reducible refine Kd.vq ?_)))
          (case side4=>exact Aw.out)
          (case side5=>repeat(first|exact(Kd.vk HR1_1.out HB.out)|(with_reducible refine Kd.qS ?_ _)|(with_reducible refine Kd.qU ?_ _)|(with_reducible refine Kd.vq ?_)))
          (case side6=>exact AM.out)
          (case side7=>repeat(first|exact(Kd.vk HR1_2.out HB.out)|(with_reducible refine Kd.qS ?_ _)|(with_reducible refine Kd.qU ?_ _)|(with_reducible refine Kd.vq ?_)))
          (case side8=>exact AP.out)
          rintro e w40 ⟨rfl,hb⟩;refine⟨_,rfl,?_⟩;have Ao:=qb.mk (qJ (g:=Ac) (o:=.cells #[.int .i64 a0_0,.slice Ag l0_1.length Ah,.slice Ai l0_2.length Aj] 35 (0,0)) (by(with_reducible repeat(first|refine qp ?_ _|refine qu ?_|refine qo ?_ _));exact Aa.out) hb);have Ap:=qb.mk (qJ (g:=Af) (o:=.cells #[.int .i64 a1_0,.slice Ar l1_1.length As,.slice At l1_2.length Au] 35 (0,0)) (by(with_reducible repeat(first|refine qp ?_ _|refine qu ?_|refine qo ?_ _));exact Ab.out) hb);have Aq:=qb.mk (qB (by repeat(first|(with_reducible first|exact HB.out|apply qd|apply qa|apply qc|refine qh ?_ Ad.out|refine qh ?_ Ae.out)|exact HB.out)) hb);clear Aa;clear Ab;clear HB;have Aa:=Ao;have Ab:=Ap;have HB:=Aq;clear Ao Ap Aq
          (try clear hb)
          (try clear hb2)
          (try clear hk)
          (try clear hi)
          refine hK.out _ _ ⟨(qe Aa.out 0).trans rfl,(qe Aa.out 1).trans rfl,(qe Aa.out 2).trans rfl,(qe Ab.out 0).trans rfl,(qe Ab.out 1).trans rfl,(qe Ab.out 2).trans rfl⟩ (fun hHeld=>?_);clear hK K;refine zz (a':=?_) ?_ ?_;rotate_left
          ·show Act.put _ (some 23) _=_
           simp only [Act.put,qSa,qSb,qSc,qm,qq]
           rfl
          refine zP (i:=10) (N:=some 26) #[true,true,true,true,true,true,true,true,true,true,true,false,false,false,false,false,false,false,false,false,false,false,false,false,false,false,false,false,false] rfl rfl (zm HT_.out (by kernel_rfl)) (by decide) (fun K hK=>?_);refine zy Tryd.func36 (by kernel_rfl) rfl #[.agg #[.int .i64 a0_0,.slice Ag l0_1.length Ah,.slice Ai l0_2.length Aj],.agg #[.int .i64 a1_0,.slice Ar l1_1.length As,.slice At l1_2.length Au]] (by rfl) rfl rfl (by(try simp only [List.map_toArray,List.map_cons,List.map_nil]);first|done|rfl|(simp only [List.length_drop,List.length_take];rfl)) ?_
          with_reducible refine(qX.calls kj20 a0_0 _ _ l0_1 _ _ l0_2 a1_0 _ _ l1_1 _ _ l1_2 AD _ ?side1 ?side2 ?side3 ?side4 ?side5 ?side6 ?side7 ?side8 A29.out).mono ?_
          (case side1=>repeat(first|exact(Kd.vk HR0_1.out HB.out)|(with_reducible refine Kd.qS ?_ _)|(with_reducible refine Kd.qU ?_ _)|(with_reducible refine Kd.vq ?_)))
          (case side2=>exact Av.out)
          (case side3=>repeat(first|exact(Kd.vk HR0_2.out HB.out)|(with_reducible refine Kd.qS ?_ _)|(with_reducible refine Kd.qU ?_ _)|(with_reducible refine Kd.vq ?_)))
          (case side4=>exact Aw.out)
          (case side5=>repeat(first|exact(Kd.vk HR1_1.out HB.out)|(with_reducible refine Kd.qS ?_ _)|(with_reducible refine Kd.qU ?_ _)|(with_reducible refine Kd.vq ?_)))
          (case side6=>exact AM.out)
          (case side7=>repeat(first|exact(Kd.vk HR1_2.out HB.out)|(with_reducible refine Kd.qS ?_ _)|(with_reducible refine Kd.qU ?_ _)|(with_reducible refine Kd.vq ?_)))
          (case side8=>exact AP.out)
          rintro e w41 ⟨rfl,hb⟩;refine⟨_,rfl,?_⟩;have Ao:=qb.mk (qJ (g:=Ac) (o:=.cells #[.int .i64 a0_0,.slice Ag l0_1.length Ah,.slice Ai l0_2.length Aj] 35 (0,0)) (by(with_reducible repeat(first|refine qp ?_ _|refine qu ?_|refine qo ?_ _));exact Aa.out) hb);have Ap:=qb.mk (qJ (g:=Af) (o:=.cells #[.int .i64 a1_0,.slice Ar l1_1.length As,.slice At l1_2.length Au] 35 (0,0)) (by(with_reducible repeat(first|refine qp ?_ _|refine qu ?_|refine qo ?_ _));exact Ab.out) hb);have Aq:=qb.mk (qB (by repeat(first|(with_reducible first|exact HB.out|apply qd|apply qa|apply qc|refine qh ?_ Ad.out|refine qh ?_ Ae.out)|exact HB.out)) hb);clear Aa;clear Ab;clear HB;have Aa:=Ao;have Ab:=Ap;have HB:=Aq;clear Ao Ap Aq
          (try clear hb)
          (try clear hb2)
          (try clear hk)
          (try clear hi)
          refine hK.out _ _ ⟨(qe Aa.out 0).trans rfl,(qe Aa.out 1).trans rfl,(qe Aa.out 2).trans rfl,(qe Ab.out 0).trans rfl,(qe Ab.out 1).trans rfl,(qe Ab.out 2).trans rfl⟩ (fun hHeld=>?_);clear hK K;refine zz (a':=?_) ?_ ?_;rotate_left
          ·show Act.put _ (some 26) _=_
           simp only [Act.put,qSa,qSb,qSc,qm,qq]
           rfl
          refine qw (i:=11) (N:=some 27) (v:=?_) (a':=?_) #[true,true,true,true,true,true,true,true,true,true,true,true,false,false,false,false,false,false,false,false,false,false,false,false,false,false,false,false,false] rfl rfl (qn HT_.out (by kernel_rfl)) (fun _ _ _ h=>h) (Or.inl ⟨by rfl,?_⟩) ?_ ?_;rotate_left
          ·intro w'
           go_simp
           with_reducible rfl
          rotate_left
          ·simp only [Act.put,qSa,qSb,qSc,qm,qq]
           rfl
          refine qw (i:=12) (N:=some 28) (v:=?_) (a':=?_) #[true,true,true,true,true,true,true,true,true,true,true,true,true,false,false,false,false,false,false,false,false,false,false,false,false,false,false,false,false] rfl rfl (qn HT_.out (by kernel_rfl)) (fun _ _ _ h=>h) (Or.inl ⟨by rfl,?_⟩) ?_ ?_;rotate_left
          ·intro w'
           go_simp
           with_reducible rfl
          rotate_left
          ·simp only [Act.put,qSa,qSb,qSc,qm,qq]
           rfl
          refine qw (i:=13) (N:=some 29) (v:=?_) (a':=?_) #[true,true,true,true,true,true,true,true,true,true,true,true,true,true,false,false,false,false,false,false,false,false,false,false,false,false,false,false,false] rfl rfl (qn HT_.out (by kernel_rfl)) (fun _ _ _ h=>h) (Or.inl ⟨by rfl,?_⟩) ?_ ?_;rotate_left
          ·intro w'
           go_simp
           with_reducible rfl
          rotate_left
          ·simp only [Act.put,qSa,qSb,qSc,qm,qq]
           rfl
          refine vZ (i:=14) (N:=some 30) (v:=?_) (a':=?_) #[true,true,true,true,true,true,true,true,true,true,true,true,true,true,true,false,false,false,false,false,false,false,false,false,false,false,false,false,false] rfl rfl (vu HT_.out HW_.out (by kernel_rfl)) (fun _ _ _ h=>h) (Or.inl ⟨by rfl,?_⟩) hHeld ?_ ?_;rotate_left
          ·rintro w' ⟨s0,s1,s2,s3,s4,s5⟩
           go_simp
           with_reducible rfl
          rotate_left
          ·simp only [Act.put,qSa,qSb,qSc,qm,qq]
           rfl
          refine vZ (i:=15) (N:=some 31) (v:=?_) (a':=?_) #[true,true,true,true,true,true,true,true,true,true,true,true,true,true,true,true,false,false,false,false,false,false,false,false,false,false,false,false,false] rfl rfl (vu HT_.out HW_.out (by kernel_rfl)) (fun _ _ _ h=>h) (Or.inl ⟨by rfl,?_⟩) hHeld ?_ ?_;rotate_left
          ·rintro w' ⟨s0,s1,s2,s3,s4,s5⟩
           go_simp
           with_reducible rfl
          rotate_left
          ·simp only [Act.put,qSa,qSb,qSc,qm,qq]
           rfl
          refine zP (i:=16) (N:=some 32) #[true,true,true,true,true,true,true,true,true,true,true,true,true,true,true,true,true,false,false,false,false,false,false,false,false,false,false,false,false] rfl rfl (zm HT_.out (by kernel_rfl)) (by decide) (fun K hK=>?_);refine zy Tryd.func41 (by kernel_rfl) rfl #[.agg #[.int .i64 a0_0,.slice Ag l0_1.length Ah,.slice Ai l0_2.length Aj]] (by rfl) rfl rfl (by(try simp only [List.map_toArray,List.map_cons,List.map_nil]);first|done|rfl|(simp only [List.length_drop,List.length_take];rfl)) ?_
          with_reducible refine(zf.calls a0_0 _ _ l0_1 _ _ l0_2 AY AZ Ba _ ?side1 ?side2 ?side3 ?side4 A31.out).mono ?_
          (case side1=>repeat(first|exact(Kd.vk HR0_1.out HB.out)|(with_reducible refine Kd.qS ?_ _)|(with_reducible refine Kd.qU ?_ _)|(with_reducible refine Kd.vq ?_)))
          (case side2=>exact Av.out)
          (case side3=>repeat(first|exact(Kd.vk HR0_2.out HB.out)|(with_reducible refine Kd.qS ?_ _)|(with_reducible refine Kd.qU ?_ _)|(with_reducible refine Kd.vq ?_)))
          (case side4=>exact Aw.out)
          rintro e w42 ⟨v347,v350,rfl,ho0,ho1,hb⟩;refine⟨_,rfl,?_⟩;have Ao:=qb.mk (Kd.zq ho0 (qG (by repeat(first|(with_reducible first|exact HB.out|apply qd|apply qa|apply qc|refine qh ?_ Ad.out|refine qh ?_ Ae.out)|exact HB.out))));have Ap:=qb.mk (Kd.zq ho1 (qG (by repeat(first|(with_reducible first|exact HB.out|apply qd|apply qa|apply qc|refine qh ?_ Ad.out|refine qh ?_ Ae.out)|exact HB.out))));have Aq:=qb.mk (qJ (g:=Ac) (o:=.cells #[.int .i64 a0_0,.slice Ag l0_1.length Ah,.slice Ai l0_2.length Aj] 35 (0,0)) (by(with_reducible repeat(first|refine qp ?_ _|refine qu ?_|refine qo ?_ _));exact Aa.out) hb);have AE:=qb.mk (qJ (g:=Af) (o:=.cells #[.int .i64 a1_0,.slice Ar l1_1.length As,.slice At l1_2.length Au] 35 (0,0)) (by(with_reducible repeat(first|refine qp ?_ _|refine qu ?_|refine qo ?_ _));exact Ab.out) hb);have AH:=qb.mk (qB (by repeat(first|(with_reducible first|exact HB.out|apply qd|apply qa|apply qc|refine qh ?_ Ad.out|refine qh ?_ Ae.out)|exact HB.out)) hb);clear Aa;clear Ab;clear HB;have Ak:=Ao;have Am:=Ap;have Aa:=Aq;have Ab:=AE;have HB:=AH;clear Ao Ap Aq AE AH
          (try clear hb)
          (try clear hb2)
          (try clear hk)
          (try clear hi)
          (try clear ho0)
          (try clear ho1)
          obtain⟨Ao43,co43,eo43⟩:=Kd.zn Ak.out
          (first|subst eo43|(injection eo43 with f1_ f2_ f3_;have f4_:=f1_.symm;have f5_:=f3_.symm;clear f1_ f2_ f3_;subst f4_;subst f5_))
          obtain⟨Ao44,co44,eo44⟩:=Kd.zn Am.out
          (first|subst eo44|(injection eo44 with f1_ f2_ f3_;have f4_:=f1_.symm;have f5_:=f3_.symm;clear f1_ f2_ f3_;subst f4_;subst f5_))
          refine hK.out _ _ ⟨(qe Aa.out 0).trans rfl,(qe Aa.out 1).trans rfl,(qe Aa.out 2).trans rfl,(qe Ab.out 0).trans rfl,(qe Ab.out 1).trans rfl,(qe Ab.out 2).trans rfl⟩ (fun hHeld=>?_);clear hK K;refine zz (a':=?_) ?_ ?_;rotate_left
          ·show Act.put _ (some 32) _=_
           simp only [Act.put,qSa,qSb,qSc,qm,qq]
           rfl
          refine zP (i:=17) (N:=some 33) #[true,true,true,true,true,true,true,true,true,true,true,true,true,true,true,true,true,true,false,false,false,false,false,false,false,false,false,false,false] rfl rfl (zm HT_.out (by kernel_rfl)) (by decide) (fun K hK=>?_);refine zy Tryd.func40 (by kernel_rfl) rfl #[.agg #[.int .i64 a0_0,.slice Ag l0_1.length Ah,.slice Ai l0_2.length Aj],.agg #[.int .i64 AY,.slice Ao43 AZ.length co43,.slice Ao44 Ba.length co44]] (by rfl) rfl rfl (by(try simp only [List.map_toArray,List.map_cons,List.map_nil]);first|done|rfl|(simp only [List.length_drop,List.length_take];rfl)) ?_
          with_reducible refine(zg.calls kj20 a0_0 _ _ l0_1 _ _ l0_2 AY _ _ AZ _ _ Ba true _ ?side1 ?side2 ?side3 ?side4 ?side5 ?side6 ?side7 ?side8 A32.out).mono ?_
          (case side1=>repeat(first|exact(Kd.vk HR0_1.out HB.out)|(with_reducible refine Kd.qS ?_ _)|(with_reducible refine Kd.qU ?_ _)|(with_reducible refine Kd.vq ?_)))
          (case side2=>exact Av.out)
          (case side3=>repeat(first|exact(Kd.vk HR0_2.out HB.out)|(with_reducible refine Kd.qS ?_ _)|(with_reducible refine Kd.qU ?_ _)|(with_reducible refine Kd.vq ?_)))
          (case side4=>exact Aw.out)
          (case side5=>repeat(first|exact(Kd.vQ Ak.out).2.2|(with_reducible refine Kd.qS ?_ _)|(with_reducible refine Kd.qU ?_ _)|(with_reducible refine Kd.vq ?_)))
          (case side6=>exact(Kd.vQ Ak.out).2.1)
          (case side7=>repeat(first|exact(Kd.vQ Am.out).2.2|(with_reducible refine Kd.qS ?_ _)|(with_reducible refine Kd.qU ?_ _)|(with_reducible refine Kd.vq ?_)))
          (case side8=>exact(Kd.vQ Am.out).2.1)
          rintro e w45 ⟨rfl,hb⟩;refine⟨_,rfl,?_⟩;have Ao:=qb.mk (Kd.zh (by(with_reducible repeat(first|apply Kd.vB|apply Kd.vA|apply Kd.vK));exact Ak.out) hb);have Ap:=qb.mk (Kd.zh (by(with_reducible repeat(first|apply Kd.vB|apply Kd.vA|apply Kd.vK));exact Am.out) hb);have Aq:=qb.mk (qJ (g:=Ac) (o:=.cells #[.int .i64 a0_0,.slice Ag l0_1.length Ah,.slice Ai l0_2.length Aj] 35 (0,0)) (by(with_reducible repeat(first|refine qp ?_ _|refine qu ?_|refine qo ?_ _));exact Aa.out) hb);have AE:=qb.mk (qJ (g:=Af) (o:=.cells #[.int .i64 a1_0,.slice Ar l1_1.length As,.slice At l1_2.length Au] 35 (0,0)) (by(with_reducible repeat(first|refine qp ?_ _|refine qu ?_|refine qo ?_ _));exact Ab.out) hb);have AH:=qb.mk (qB (by repeat(first|(with_reducible first|exact HB.out|apply qd|apply qa|apply qc|refine qh ?_ Ad.out|refine qh ?_ Ae.out)|exact HB.out)) hb);clear Ak;clear Am;clear Aa;clear Ab;clear HB;have Ak:=Ao;have Am:=Ap;have Aa:=Aq;have Ab:=AE;have HB:=AH;clear Ao Ap Aq AE AH
          (try clear hb)
          (try clear hb2)
          (try clear hk)
          (try clear hi)
          refine hK.out _ _ ⟨(qe Aa.out 0).trans rfl,(qe Aa.out 1).trans rfl,(qe Aa.out 2).trans rfl,(qe Ab.out 0).trans rfl,(qe Ab.out 1).trans rfl,(qe Ab.out 2).trans rfl⟩ (fun hHeld=>?_);clear hK K;refine zz (a':=?_) ?_ ?_;rotate_left
          ·show Act.put _ (some 33) _=_
           simp only [Act.put,qSa,qSb,qSc,qm,qq]
           rfl
          refine qw (i:=18) (N:=some 34) (v:=?_) (a':=?_) #[true,true,true,true,true,true,true,true,true,true,true,true,true,true,true,true,true,true,true,false,false,false,false,false,false,false,false,false,false] rfl rfl (qn HT_.out (by kernel_rfl)) (fun _ _ _ h=>h) (Or.inl ⟨by rfl,?_⟩) ?_ ?_;rotate_left
          ·intro w'
           go_simp
           with_reducible rfl
          rotate_left
          ·simp only [Act.put,qSa,qSb,qSc,qm,qq]
           rfl
          refine qw (i:=19) (N:=some 35) (v:=?_) (a':=?_) #[true,true,true,true,true,true,true,true,true,true,true,true,true,true,true,true,true,true,true,true,false,false,false,false,false,false,false,false,false] rfl rfl (qn HT_.out (by kernel_rfl)) (fun _ _ _ h=>h) (Or.inl ⟨by rfl,?_⟩) ?_ ?_;rotate_left
          ·intro w'
           go_simp
           with_reducible rfl
          rotate_left
          ·simp only [Act.put,qSa,qSb,qSc,qm,qq]
           rfl
          refine vZ (i:=20) (N:=some 36) (v:=?_) (a':=?_) #[true,true,true,true,true,true,true,true,true,true,true,true,true,true,true,true,true,true,true,true,true,false,false,false,false,false,false,false,false] rfl rfl (vu HT_.out HW_.out (by kernel_rfl)) (fun _ _ _ h=>h) (Or.inl ⟨by rfl,?_⟩) hHeld ?_ ?_;rotate_left
          ·rintro w' ⟨s0,s1,s2,s3,s4,s5⟩
           go_simp
           with_reducible rfl
          rotate_left
          ·simp only [Act.put,qSa,qSb,qSc,qm,qq]
           rfl
          refine vZ (i:=22) (N:=some 38) (v:=?_) (a':=?_) #[true,true,true,true,true,true,true,true,true,true,true,true,true,true,true,true,true,true,true,true,true,false,true,false,false,false,false,false,false] rfl rfl (vu HT_.out HW_.out (by kernel_rfl)) (fun _ _ _ h=>h) (Or.inl ⟨by rfl,?_⟩) hHeld ?_ ?_;rotate_left
          ·rintro w' ⟨s0,s1,s2,s3,s4,s5⟩
           go_simp
           with_reducible rfl
          rotate_left
          ·simp only [Act.put,qSa,qSb,qSc,qm,qq]
           rfl
          refine zP (i:=21) (N:=some 37) #[true,true,true,true,true,true,true,true,true,true,true,true,true,true,true,true,true,true,true,true,true,true,true,false,false,false,false,false,false] rfl rfl (zm HT_.out (by kernel_rfl)) (by decide) (fun K hK=>?_);refine zy Tryd.func41 (by kernel_rfl) rfl #[.agg #[.int .i64 a0_0,.slice Ag l0_1.length Ah,.slice Ai l0_2.length Aj]] (by rfl) rfl rfl (by(try simp only [List.map_toArray,List.map_cons,List.map_nil]);first|done|rfl|(simp only [List.length_drop,List.length_take];rfl)) ?_
          with_reducible refine(zf.calls a0_0 _ _ l0_1 _ _ l0_2 Be Bf Bg _ ?side1 ?side2 ?side3 ?side4 A34.out).mono ?_
          (case side1=>repeat(first|exact(Kd.vk HR0_1.out HB.out)|(with_reducible refine Kd.qS ?_ _)|(with_reducible refine Kd.qU ?_ _)|(with_reducible refine Kd.vq ?_)))
          (case side2=>exact Av.out)
          (case side3=>repeat(first|exact(Kd.vk HR0_2.out HB.out)|(with_reducible refine Kd.qS ?_ _)|(with_reducible refine Kd.qU ?_ _)|(with_reducible refine Kd.vq ?_)))
          (case side4=>exact Aw.out)
          rintro e w46 ⟨v355,v358,rfl,ho0,ho1,hb⟩;refine⟨_,rfl,?_⟩;have Ao:=qb.mk (Kd.jg (by(with_reducible repeat(first|apply Kd.vB|apply Kd.vA|apply Kd.vK));exact Ak.out) (Kd.jY ho0) hb);have Ap:=qb.mk (Kd.jg (by(with_reducible repeat(first|apply Kd.vB|apply Kd.vA|apply Kd.vK));exact Am.out) (Kd.jY ho1) hb);have Aq:=qb.mk (Kd.zq (Kd.jX ho0 (Kd.Zv (by(with_reducible repeat(first|apply Kd.vB|apply Kd.vA|apply Kd.vK));exact Ak.out))) (qG (by repeat(first|(with_reducible first|exact HB.out|apply qd|apply qa|apply qc|refine qh ?_ Ad.out|refine qh ?_ Ae.out)|exact HB.out))));have AE:=qb.mk (Kd.zq (Kd.jX ho1 (Kd.Zv (by(with_reducible repeat(first|apply Kd.vB|apply Kd.vA|apply Kd.vK));exact Am.out))) (qG (by repeat(first|(with_reducible first|exact HB.out|apply qd|apply qa|apply qc|refine qh ?_ Ad.out|refine qh ?_ Ae.out)|exact HB.out))));have AH:=qb.mk (qJ (g:=Ac) (o:=.cells #[.int .i64 a0_0,.slice Ag l0_1.length Ah,.slice Ai l0_2.length Aj] 35 (0,0)) (by(with_reducible repeat(first|refine qp ?_ _|refine qu ?_|refine qo ?_ _));exact Aa.out) hb);have Bb:=qb.mk (qJ (g:=Af) (o:=.cells #[.int .i64 a1_0,.slice Ar l1_1.length As,.slice At l1_2.length Au] 35 (0,0)) (by(with_reducible repeat(first|refine qp ?_ _|refine qu ?_|refine qo ?_ _));exact Ab.out) hb);have Bc:=qb.mk (qB (by repeat(first|(with_reducible first|exact HB.out|apply qd|apply qa|apply qc|refine qh ?_ Ad.out|refine qh ?_ Ae.out)|exact HB.out)) hb);clear Ak;clear Am;clear Aa;clear Ab;clear HB;have Ak:=Ao;have Am:=Ap;have AA:=Aq;have AB:=AE;have Aa:=AH;have Ab:=Bb;have HB:=Bc;clear Ao Ap Aq AE AH Bb Bc
          (try clear hb)
          (try clear hb2)
          (try clear hk)
          (try clear hi)
          (try clear ho0)
          (try clear ho1)
          obtain⟨Ao47,co47,eo47⟩:=Kd.zn AA.out
          (first|subst eo47|(injection eo47 with f1_ f2_ f3_;have f4_:=f1_.symm;have f5_:=f3_.symm;clear f1_ f2_ f3_;subst f4_;subst f5_))
          obtain⟨Ao48,co48,eo48⟩:=Kd.zn AB.out
          (first|subst eo48|(injection eo48 with f1_ f2_ f3_;have f4_:=f1_.symm;have f5_:=f3_.symm;clear f1_ f2_ f3_;subst f4_;subst f5_))
          refine hK.out _ _ ⟨(qe Aa.out 0).trans rfl,(qe Aa.out 1).trans rfl,(qe Aa.out 2).trans rfl,(qe Ab.out 0).trans rfl,(qe Ab.out 1).trans rfl,(qe Ab.out 2).trans rfl⟩ (fun hHeld=>?_);clear hK K;refine zz (a':=?_) ?_ ?_;rotate_left
          ·show Act.put _ (some 37) _=_
           simp only [Act.put,qSa,qSb,qSc,qm,qq]
           rfl
          refine zP (i:=23) (N:=some 39) #[true,true,true,true,true,true,true,true,true,true,true,true,true,true,true,true,true,true,true,true,true,true,true,true,false,false,false,false,false] rfl rfl (zm HT_.out (by kernel_rfl)) (by decide) (fun K hK=>?_);refine zy Tryd.func36 (by kernel_rfl) rfl #[.agg #[.int .i64 Be,.slice Ao47 Bf.length co47,.slice Ao48 Bg.length co48],.agg #[.int .i64 a0_0,.slice Ag l0_1.length Ah,.slice Ai l0_2.length Aj]] (by rfl) rfl rfl (by(try simp only [List.map_toArray,List.map_cons,List.map_nil]);first|done|rfl|(simp only [List.length_drop,List.length_take];rfl)) ?_
          with_reducible refine(qX.calls kj20 Be _ _ Bf _ _ Bg a0_0 _ _ l0_1 _ _ l0_2 true _ ?side1 ?side2 ?side3 ?side4 ?side5 ?side6 ?side7 ?side8 A35.out).mono ?_
          (case side1=>repeat(first|exact(Kd.vQ AA.out).2.2|(with_reducible refine Kd.qS ?_ _)|(with_reducible refine Kd.qU ?_ _)|(with_reducible refine Kd.vq ?_)))
          (case side2=>exact(Kd.vQ AA.out).2.1)
          (case side3=>repeat(first|exact(Kd.vQ AB.out).2.2|(with_reducible refine Kd.qS ?_ _)|(with_reducible refine Kd.qU ?_ _)|(with_reducible refine Kd.vq ?_)))
          (case side4=>exact(Kd.vQ AB.out).2.1)
          (case side5=>repeat(first|exact(Kd.vk HR0_1.out HB.out)|(with_reducible refine Kd.qS ?_ _)|(with_reducible refine Kd.qU ?_ _)|(with_reducible refine Kd.vq ?_)))
          (case side6=>exact Av.out)
          (case side7=>repeat(first|exact(Kd.vk HR0_2.out HB.out)|(with_reducible refine Kd.qS ?_ _)|(with_reducible refine Kd.qU ?_ _)|(with_reducible refine Kd.vq ?_)))
          (case side8=>exact Aw.out)
          rintro e w49 ⟨rfl,hb⟩;refine⟨_,rfl,?_⟩;have Ao:=qb.mk (Kd.zh (by(with_reducible repeat(first|apply Kd.vB|apply Kd.vA|apply Kd.vK));exact Ak.out) hb);have Ap:=qb.mk (Kd.zh (by(with_reducible repeat(first|apply Kd.vB|apply Kd.vA|apply Kd.vK));exact Am.out) hb);have Aq:=qb.mk (Kd.zh (by(with_reducible repeat(first|apply Kd.vB|apply Kd.vA|apply Kd.vK));exact AA.out) hb);have AE:=qb.mk (Kd.zh (by(with_reducible repeat(first|apply Kd.vB|apply Kd.vA|apply Kd.vK));exact AB.out) hb);have AH:=qb.mk (qJ (g:=Ac) (o:=.cells #[.int .i64 a0_0,.slice Ag l0_1.length Ah,.slice Ai l0_2.length Aj] 35 (0,0)) (by(with_reducible repeat(first|refine qp ?_ _|refine qu ?_|refine qo ?_ _));exact Aa.out) hb);have Bb:=qb.mk (qJ (g:=Af) (o:=.cells #[.int .i64 a1_0,.slice Ar l1_1.length As,.slice At l1_2.length Au] 35 (0,0)) (by(with_reducible repeat(first|refine qp ?_ _|refine qu ?_|refine qo ?_ _));exact Ab.out) hb);have Bc:=qb.mk (qB (by repeat(first|(with_reducible first|exact HB.out|apply qd|apply qa|apply qc|refine qh ?_ Ad.out|refine qh ?_ Ae.out)|exact HB.out)) hb);clear Ak;clear Am;clear AA;clear AB;clear Aa;clear Ab;clear HB;have Ak:=Ao;have Am:=Ap;have AA:=Aq;have AB:=AE;have Aa:=AH;have Ab:=Bb;have HB:=Bc;clear Ao Ap Aq AE AH Bb Bc
          (try clear hb)
          (try clear hb2)
          (try clear hk)
          (try clear hi)
          refine hK.out _ _ ⟨(qe Aa.out 0).trans rfl,(qe Aa.out 1).trans rfl,(qe Aa.out 2).trans rfl,(qe Ab.out 0).trans rfl,(qe Ab.out 1).trans rfl,(qe Ab.out 2).trans rfl⟩ (fun hHeld=>?_);clear hK K;refine zz (a':=?_) ?_ ?_;rotate_left
          ·show Act.put _ (some 39) _=_
           simp only [Act.put,qSa,qSb,qSc,qm,qq]
           rfl
          refine qw (i:=24) (N:=some 40) (v:=?_) (a':=?_) #[true,true,true,true,true,true,true,true,true,true,true,true,true,true,true,true,true,true,true,true,true,true,true,true,true,false,false,false,false] rfl rfl (qn HT_.out (by kernel_rfl)) (fun _ _ _ h=>h) (Or.inl ⟨by rfl,?_⟩) ?_ ?_;rotate_left
          ·intro w'
           go_simp
           with_reducible rfl
          rotate_left
          ·simp only [Act.put,qSa,qSb,qSc,qm,qq]
           rfl
          refine qw (i:=25) (N:=some 41) (v:=?_) (a':=?_) #[true,true,true,true,true,true,true,true,true,true,true,true,true,true,true,true,true,true,true,true,true,true,true,true,true,true,false,false,false] rfl rfl (qn HT_.out (by kernel_rfl)) (fun _ _ _ h=>h) (Or.inl ⟨by rfl,?_⟩) ?_ ?_;rotate_left
          ·intro w'
           go_simp
           with_reducible rfl
          rotate_left
          ·simp only [Act.put,qSa,qSb,qSc,qm,qq]
           rfl
          refine zP (i:=26) (N:=some 42) #[true,true,true,true,true,true,true,true,true,true,true,true,true,true,true,true,true,true,true,true,true,true,true,true,true,true,true,false,false] rfl rfl (zm HT_.out (by kernel_rfl)) (by decide) (fun K hK=>?_);refine zy Tryd.func33 (by kernel_rfl) rfl #[] (by rfl) rfl rfl (by(try simp only [List.map_toArray,List.map_cons,List.map_nil]);first|done|rfl|(simp only [List.length_drop,List.length_take];rfl)) ?_
          with_reducible refine(qZ.calls kj20  AC _ A37.out (HT.out.go (by repeat(first|(with_reducible first|exact HB.out|apply qd|apply qa|apply qc|refine qh ?_ Ad.out|refine qh ?_ Ae.out)|exact HB.out)))).mono ?_
          rintro e w50 ⟨rfl,hb⟩;refine⟨_,rfl,?_⟩;have Ao:=qb.mk (Kd.zh (by(with_reducible repeat(first|apply Kd.vB|apply Kd.vA|apply Kd.vK));exact Ak.out) hb);have Ap:=qb.mk (Kd.zh (by(with_reducible repeat(first|apply Kd.vB|apply Kd.vA|apply Kd.vK));exact Am.out) hb);have Aq:=qb.mk (Kd.zh (by(with_reducible repeat(first|apply Kd.vB|apply Kd.vA|apply Kd.vK));exact AA.out) hb);have AE:=qb.mk (Kd.zh (by(with_reducible repeat(first|apply Kd.vB|apply Kd.vA|apply Kd.vK));exact AB.out) hb);have AH:=qb.mk (qJ (g:=Ac) (o:=.cells #[.int .i64 a0_0,.slice Ag l0_1.length Ah,.slice Ai l0_2.length Aj] 35 (0,0)) (by(with_reducible repeat(first|refine qp ?_ _|refine qu ?_|refine qo ?_ _));exact Aa.out) hb);have Bb:=qb.mk (qJ (g:=Af) (o:=.cells #[.int .i64 a1_0,.slice Ar l1_1.length As,.slice At l1_2.length Au] 35 (0,0)) (by(with_reducible repeat(first|refine qp ?_ _|refine qu ?_|refine qo ?_ _));exact Ab.out) hb);have Bc:=qb.mk (qB (by repeat(first|(with_reducible first|exact HB.out|apply qd|apply qa|apply qc|refine qh ?_ Ad.out|refine qh ?_ Ae.out)|exact HB.out)) hb);clear Ak;clear Am;clear AA;clear AB;clear Aa;clear Ab;clear HB;have Ak:=Ao;have Am:=Ap;have AA:=Aq;have AB:=AE;have Aa:=AH;have Ab:=Bb;have HB:=Bc;clear Ao Ap Aq AE AH Bb Bc
          (try clear hb)
          (try clear hb2)
          (try clear hk)
          (try clear hi)
          refine hK.out _ _ ⟨(qe Aa.out 0).trans rfl,(qe Aa.out 1).trans rfl,(qe Aa.out 2).trans rfl,(qe Ab.out 0).trans rfl,(qe Ab.out 1).trans rfl,(qe Ab.out 2).trans rfl⟩ (fun hHeld=>?_);clear hK K;refine zz (a':=?_) ?_ ?_;rotate_left
          ·show Act.put _ (some 42) _=_
           simp only [Act.put,qSa,qSb,qSc,qm,qq]
           rfl
          refine qw (i:=27) (N:=some 43) (v:=?_) (a':=?_) #[true,true,true,true,true,true,true,true,true,true,true,true,true,true,true,true,true,true,true,true,true,true,true,true,true,true,true,true,false] rfl rfl (qn HT_.out (by kernel_rfl)) (fun _ _ _ h=>h) (Or.inl ⟨by rfl,?_⟩) ?_ ?_;rotate_left
          ·intro w'
           go_simp
           with_reducible rfl
          rotate_left
          ·simp only [Act.put,qSa,qSb,qSc,qm,qq]
           rfl
          refine qw (i:=28) (N:=some 4) (v:=?_) (a':=?_) #[true,true,true,true,true,true,true,true,true,true,true,true,true,true,true,true,true,true,true,true,true,true,true,true,true,true,true,true,true] rfl rfl (qn HT_.out (by kernel_rfl)) (fun _ _ _ h=>h) (Or.inl ⟨by rfl,?_⟩) ?_ ?_;rotate_left
          ·intro w'
           go_simp
           with_reducible rfl
          rotate_left
          ·simp only [Act.put,qSa,qSb,qSc,qm,qq]
           rfl
          refine jn (zK HT_.out (by kernel_rfl)) ?_;try go_wp2
          go_ret
          exact⟨by first|rfl|(simp [qK,qL] <;> rfl)|(simp [*,qK,qL] <;> rfl),by repeat(first|(with_reducible first|exact HB.out|apply qd|apply qa|apply qc|refine qh ?_ Ad.out|refine qh ?_ Ae.out)|exact HB.out)⟩
         ·replace c36:=Bool.eq_false_iff.mpr c36
          subst c36;have H1 : (some false)=some r:=by rw [if_neg (show ¬ (false=true) by decide)] at H;exact H
          clear H;have H:=H1;clear H1;obtain rfl:=Option.some.inj H;try go_wp2
          have Ao:=qb.mk (qu Aa.out);have Ap:=qb.mk (qu Ab.out);have Aq:=qb.mk (qc HB.out);clear Aa;clear Ab;clear HB;have Aa:=Ao;have Ab:=Ap;have HB:=Aq;clear Ao Ap Aq;refine zS (n:=29) (S:=fun w'=>w'.cell? ⟨Ac,0,none⟩=some (.int .i64 a0_0)∧w'.cell? ⟨Ac,1,none⟩=some (.slice Ag l0_1.length Ah)∧w'.cell? ⟨Ac,2,none⟩=some (.slice Ai l0_2.length Aj)∧w'.cell? ⟨Af,0,none⟩=some (.int .i64 a1_0)∧w'.cell? ⟨Af,1,none⟩=some (.slice Ar l1_1.length As)∧w'.cell? ⟨Af,2,none⟩=some (.slice At l1_2.length Au)) (ds:=[]) #[false,false,false,false,false,false,false,false,false,false,false,false,false,false,false,false,false,false,false,false,false,false,false,false,false,false,false,false,false] (by kernel_rfl) rfl rfl ⟨(qe Aa.out 0).trans rfl,(qe Aa.out 1).trans rfl,(qe Aa.out 2).trans rfl,(qe Ab.out 0).trans rfl,(qe Ab.out 1).trans rfl,(qe Ab.out 2).trans rfl⟩ (fun hHeld=>?_);refine zu qt.tab6 qt.bits6 (fun HT_ HW_=>?_)
          generalize wc.drew=w51 at Aa Ab HB hHeld ⊢
          refine qw (i:=2) (N:=some 18) (v:=?_) (a':=?_) #[false,false,true,false,false,false,false,false,false,false,false,false,false,false,false,false,false,false,false,false,false,false,false,false,false,false,false,false,false] rfl rfl (qn HT_.out (by kernel_rfl)) (fun _ _ _ h=>h) (Or.inl ⟨by rfl,?_⟩) ?_ ?_;rotate_left
          ·intro w'
           go_simp
           with_reducible rfl
          rotate_left
          ·simp only [Act.put,qSa,qSb,qSc,qm,qq]
           rfl
          refine vZ (i:=0) (N:=some 16) (v:=?_) (a':=?_) #[true,false,true,false,false,false,false,false,false,false,false,false,false,false,false,false,false,false,false,false,false,false,false,false,false,false,false,false,false] rfl rfl (vu HT_.out HW_.out (by kernel_rfl)) (fun _ _ _ h=>h) (Or.inl ⟨by rfl,?_⟩) hHeld ?_ ?_;rotate_left
          ·rintro w' ⟨s0,s1,s2,s3,s4,s5⟩
           go_simp
           with_reducible rfl
          rotate_left
          ·simp only [Act.put,qSa,qSb,qSc,qm,qq]
           rfl
          refine zP (i:=1) (N:=some 17) #[true,true,true,false,false,false,false,false,false,false,false,false,false,false,false,false,false,false,false,false,false,false,false,false,false,false,false,false,false] rfl rfl (zm HT_.out (by kernel_rfl)) (by decide) (fun K hK=>?_);refine zy Tryd.func39 (by kernel_rfl) rfl #[.agg #[.int .i64 a0_0,.slice Ag l0_1.length Ah,.slice Ai l0_2.length Aj]] (by rfl) rfl rfl (by(try simp only [List.map_toArray,List.map_cons,List.map_nil]);first|done|rfl|(simp only [List.length_drop,List.length_take];rfl)) ?_
          with_reducible refine(vz.calls kj20 a0_0 _ _ l0_1 _ _ l0_2 AR _ ?side1 ?side2 ?side3 ?side4 A26.out (HT.out.go (by repeat(first|(with_reducible first|exact HB.out|apply qd|apply qa|apply qc|refine qh ?_ Ad.out|refine qh ?_ Ae.out)|exact HB.out)))).mono ?_
          (case side1=>repeat(first|exact(Kd.vk HR0_1.out HB.out)|(with_reducible refine Kd.qS ?_ _)|(with_reducible refine Kd.qU ?_ _)|(with_reducible refine Kd.vq ?_)))
          (case side2=>exact Av.out)
          (case side3=>repeat(first|exact(Kd.vk HR0_2.out HB.out)|(with_reducible refine Kd.qS ?_ _)|(with_reducible refine Kd.qU ?_ _)|(with_reducible refine Kd.vq ?_)))
          (case side4=>exact Aw.out)
          rintro e w52 ⟨rfl,hb⟩;refine⟨_,rfl,?_⟩;have Ao:=qb.mk (qJ (g:=Ac) (o:=.cells #[.int .i64 a0_0,.slice Ag l0_1.length Ah,.slice Ai l0_2.length Aj] 35 (0,0)) (by(with_reducible repeat(first|refine qp ?_ _|refine qu ?_|refine qo ?_ _));exact Aa.out) hb);have Ap:=qb.mk (qJ (g:=Af) (o:=.cells #[.int .i64 a1_0,.slice Ar l1_1.length As,.slice At l1_2.length Au] 35 (0,0)) (by(with_reducible repeat(first|refine qp ?_ _|refine qu ?_|refine qo ?_ _));exact Ab.out) hb);have Aq:=qb.mk (qB (by repeat(first|(with_reducible first|exact HB.out|apply qd|apply qa|apply qc|refine qh ?_ Ad.out|refine qh ?_ Ae.out)|exact HB.out)) hb);clear Aa;clear Ab;clear HB;have Aa:=Ao;have Ab:=Ap;have HB:=Aq;clear Ao Ap Aq
          (try clear hb)
          (try clear hb2)
          (try clear hk)
          (try clear hi)
          refine hK.out _ _ ⟨(qe Aa.out 0).trans rfl,(qe Aa.out 1).trans rfl,(qe Aa.out 2).trans rfl,(qe Ab.out 0).trans rfl,(qe Ab.out 1).trans rfl,(qe Ab.out 2).trans rfl⟩ (fun hHeld=>?_);clear hK K;refine zz (a':=?_) ?_ ?_;rotate_left
          ·show Act.put _ (some 17) _=_
           simp only [Act.put,qSa,qSb,qSc,qm,qq]
           rfl
          refine qw (i:=3) (N:=some 19) (v:=?_) (a':=?_) #[true,true,true,true,false,false,false,false,false,false,false,false,false,false,false,false,false,false,false,false,false,false,false,false,false,false,false,false,false] rfl rfl (qn HT_.out (by kernel_rfl)) (fun _ _ _ h=>h) (Or.inl ⟨by rfl,?_⟩) ?_ ?_;rotate_left
          ·intro w'
           go_simp
           with_reducible rfl
          rotate_left
          ·simp only [Act.put,qSa,qSb,qSc,qm,qq]
           rfl
          refine qw (i:=4) (N:=some 20) (v:=?_) (a':=?_) #[true,true,true,true,true,false,false,false,false,false,false,false,false,false,false,false,false,false,false,false,false,false,false,false,false,false,false,false,false] rfl rfl (qn HT_.out (by kernel_rfl)) (fun _ _ _ h=>h) (Or.inl ⟨by rfl,?_⟩) ?_ ?_;rotate_left
          ·intro w'
           go_simp
           with_reducible rfl
          rotate_left
          ·simp only [Act.put,qSa,qSb,qSc,qm,qq]
           rfl
          refine vZ (i:=5) (N:=some 21) (v:=?_) (a':=?_) #[true,true,true,true,true,true,false,false,false,false,false,false,false,false,false,false,false,false,false,false,false,false,false,false,false,false,false,false,false] rfl rfl (vu HT_.out HW_.out (by kernel_rfl)) (fun _ _ _ h=>h) (Or.inl ⟨by rfl,?_⟩) hHeld ?_ ?_;rotate_left
          ·rintro w' ⟨s0,s1,s2,s3,s4,s5⟩
           go_simp
           with_reducible rfl
          rotate_left
          ·simp only [Act.put,qSa,qSb,qSc,qm,qq]
           rfl
          refine vZ (i:=6) (N:=some 22) (v:=?_) (a':=?_) #[true,true,true,true,true,true,true,false,false,false,false,false,false,false,false,false,false,false,false,false,false,false,false,false,false,false,false,false,false] rfl rfl (vu HT_.out HW_.out (by kernel_rfl)) (fun _ _ _ h=>h) (Or.inl ⟨by rfl,?_⟩) hHeld ?_ ?_;rotate_left
          ·rintro w' ⟨s0,s1,s2,s3,s4,s5⟩
           go_simp
           with_reducible rfl
          rotate_left
          ·simp only [Act.put,qSa,qSb,qSc,qm,qq]
           rfl
          refine vZ (i:=8) (N:=some 24) (v:=?_) (a':=?_) #[true,true,true,true,true,true,true,false,true,false,false,false,false,false,false,false,false,false,false,false,false,false,false,false,false,false,false,false,false] rfl rfl (vu HT_.out HW_.out (by kernel_rfl)) (fun _ _ _ h=>h) (Or.inl ⟨by rfl,?_⟩) hHeld ?_ ?_;rotate_left
          ·rintro w' ⟨s0,s1,s2,s3,s4,s5⟩
           go_simp
           with_reducible rfl
          rotate_left
          ·simp only [Act.put,qSa,qSb,qSc,qm,qq]
           rfl
          refine vZ (i:=9) (N:=some 25) (v:=?_) (a':=?_) #[true,true,true,true,true,true,true,false,true,true,false,false,false,false,false,false,false,false,false,false,false,false,false,false,false,false,false,false,false] rfl rfl (vu HT_.out HW_.out (by kernel_rfl)) (fun _ _ _ h=>h) (Or.inl ⟨by rfl,?_⟩) hHeld ?_ ?_;rotate_left
          ·rintro w' ⟨s0,s1,s2,s3,s4,s5⟩
           go_simp
           with_reducible rfl
          rotate_left
          ·simp only [Act.put,qSa,qSb,qSc,qm,qq]
           rfl
          refine zP (i:=7) (N:=some 23) #[true,true,true,true,true,true,true,true,true,true,false,false,false,false,false,false,false,false,false,false,false,false,false,false,false,false,false,false,false] rfl rfl (zm HT_.out (by kernel_rfl)) (by decide) (fun K hK=>?_);refine zy Tryd.func40 (by kernel_rfl) rfl #[.agg #[.int .i64 a0_0,.slice Ag l0_1.length Ah,.slice Ai l0_2.length Aj],.agg #[.int .i64 a1_0,.slice Ar l1_1.length As,.slice At l1_2.length Au]] (by rfl) rfl rfl (by(try simp only [List.map_toArray,List.map_cons,List.map_nil]);first|done|rfl|(simp only [List.length_drop,List.length_take];rfl)) ?_
          with_reducible refine(zg.calls kj20 a0_0 _ _ l0_1 _ _ l0_2 a1_0 _ _ l1_1 _ _ l1_2 AF _ ?side1 ?side2 ?side3 ?side4 ?side5 ?side6 ?side7 ?side8 A28.out).mono ?_
          (case side1=>repeat(first|exact(Kd.vk HR0_1.out HB.out)|(with_reducible refine Kd.qS ?_ _)|(with_reducible refine Kd.qU ?_ _)|(with_reducible refine Kd.vq ?_)))
          (case side2=>exact Av.out)
          (case side3=>repeat(first|exact(Kd.vk HR0_2.out HB.out)|(with_reducible refine Kd.qS ?_ _)|(with_reducible refine Kd.qU ?_ _)|(with_reducible refine Kd.vq ?_)))
          (case side4=>exact Aw.out)
          (case side5=>repeat(first|exact(Kd.vk HR1_1.out HB.out)|(with_reducible refine Kd.qS ?_ _)|(with_reducible refine Kd.qU ?_ _)|(with_reducible refine Kd.vq ?_)))
          (case side6=>exact AM.out)
          (case side7=>repeat(first|exact(Kd.vk HR1_2.out HB.out)|(with_reducible refine Kd.qS ?_ _)|(with_reducible refine Kd.qU ?_ _)|(with_reducible refine Kd.vq ?_)))
          (case side8=>exact AP.out)
          rintro e w53 ⟨rfl,hb⟩;refine⟨_,rfl,?_⟩;have Ao:=qb.mk (qJ (g:=Ac) (o:=.cells #[.int .i64 a0_0,.slice Ag l0_1.length Ah,.slice Ai l0_2.length Aj] 35 (0,0)) (by(with_reducible repeat(first|refine qp ?_ _|refine qu ?_|refine qo ?_ _));exact Aa.out) hb);have Ap:=qb.mk (qJ (g:=Af) (o:=.cells #[.int .i64 a1_0,.slice Ar l1_1.length As,.slice At l1_2.length Au] 35 (0,0)) (by(with_reducible repeat(first|refine qp ?_ _|refine qu ?_|refine qo ?_ _));exact Ab.out) hb);have Aq:=qb.mk (qB (by repeat(first|(with_reducible first|exact HB.out|apply qd|apply qa|apply qc|refine qh ?_ Ad.out|refine qh ?_ Ae.out)|exact HB.out)) hb);clear Aa;clear Ab;clear HB;have Aa:=Ao;have Ab:=Ap;have HB:=Aq;clear Ao Ap Aq
          (try clear hb)
          (try clear hb2)
          (try clear hk)
          (try clear hi)
          refine hK.out _ _ ⟨(qe Aa.out 0).trans rfl,(qe Aa.out 1).trans rfl,(qe Aa.out 2).trans rfl,(qe Ab.out 0).trans rfl,(qe Ab.out 1).trans rfl,(qe Ab.out 2).trans rfl⟩ (fun hHeld=>?_);clear hK K;refine zz (a':=?_) ?_ ?_;rotate_left
          ·show Act.put _ (some 23) _=_
           simp only [Act.put,qSa,qSb,qSc,qm,qq]
           rfl
          refine zP (i:=10) (N:=some 26) #[true,true,true,true,true,true,true,true,true,true,true,false,false,false,false,false,false,false,false,false,false,false,false,false,false,false,false,false,false] rfl rfl (zm HT_.out (by kernel_rfl)) (by decide) (fun K hK=>?_);refine zy Tryd.func36 (by kernel_rfl) rfl #[.agg #[.int .i64 a0_0,.slice Ag l0_1.length Ah,.slice Ai l0_2.length Aj],.agg #[.int .i64 a1_0,.slice Ar l1_1.length As,.slice At l1_2.length Au]] (by rfl) rfl rfl (by(try simp only [List.map_toArray,List.map_cons,List.map_nil]);first|done|rfl|(simp only [List.length_drop,List.length_take];rfl)) ?_
          with_reducible refine(qX.calls kj20 a0_0 _ _ l0_1 _ _ l0_2 a1_0 _ _ l1_1 _ _ l1_2 AD _ ?side1 ?side2 ?side3 ?side4 ?side5 ?side6 ?side7 ?side8 A29.out).mono ?_
          (case side1=>repeat(first|exact(Kd.vk HR0_1.out HB.out)|(with_reducible refine Kd.qS ?_ _)|(with_reducible refine Kd.qU ?_ _)|(with_reducible refine Kd.vq ?_)))
          (case side2=>exact Av.out)
          (case side3=>repeat(first|exact(Kd.vk HR0_2.out HB.out)|(with_reducible refine Kd.qS ?_ _)|(with_reducible refine Kd.qU ?_ _)|(with_reducible refine Kd.vq ?_)))
          (case side4=>exact Aw.out)
          (case side5=>repeat(first|exact(Kd.vk HR1_1.out HB.out)|(with_reducible refine Kd.qS ?_ _)|(with_reducible refine Kd.qU ?_ _)|(with_reducible refine Kd.vq ?_)))
          (case side6=>exact AM.out)
          (case side7=>repeat(first|exact(Kd.vk HR1_2.out HB.out)|(with_reducible refine Kd.qS ?_ _)|(with_reducible refine Kd.qU ?_ _)|(with_reducible refine Kd.vq ?_)))
          (case side8=>exact AP.out)
          rintro e w54 ⟨rfl,hb⟩;refine⟨_,rfl,?_⟩;have Ao:=qb.mk (qJ (g:=Ac) (o:=.cells #[.int .i64 a0_0,.slice Ag l0_1.length Ah,.slice Ai l0_2.length Aj] 35 (0,0)) (by(with_reducible repeat(first|refine qp ?_ _|refine qu ?_|refine qo ?_ _));exact Aa.out) hb);have Ap:=qb.mk (qJ (g:=Af) (o:=.cells #[.int .i64 a1_0,.slice Ar l1_1.length As,.slice At l1_2.length Au] 35 (0,0)) (by(with_reducible repeat(first|refine qp ?_ _|refine qu ?_|refine qo ?_ _));exact Ab.out) hb);have Aq:=qb.mk (qB (by repeat(first|(with_reducible first|exact HB.out|apply qd|apply qa|apply qc|refine qh ?_ Ad.out|refine qh ?_ Ae.out)|exact HB.out)) hb);clear Aa;clear Ab;clear HB;have Aa:=Ao;have Ab:=Ap;have HB:=Aq;clear Ao Ap Aq
          (try clear hb)
          (try clear hb2)
          (try clear hk)
          (try clear hi)
          refine hK.out _ _ ⟨(qe Aa.out 0).trans rfl,(qe Aa.out 1).trans rfl,(qe Aa.out 2).trans rfl,(qe Ab.out 0).trans rfl,(qe Ab.out 1).trans rfl,(qe Ab.out 2).trans rfl⟩ (fun hHeld=>?_);clear hK K;refine zz (a':=?_) ?_ ?_;rotate_left
          ·show Act.put _ (some 26) _=_
           simp only [Act.put,qSa,qSb,qSc,qm,qq]
           rfl
          refine qw (i:=11) (N:=some 27) (v:=?_) (a':=?_) #[true,true,true,true,true,true,true,true,true,true,true,true,false,false,false,false,false,false,false,false,false,false,false,false,false,false,false,false,false] rfl rfl (qn HT_.out (by kernel_rfl)) (fun _ _ _ h=>h) (Or.inl ⟨by rfl,?_⟩) ?_ ?_;rotate_left
          ·intro w'
           go_simp
           with_reducible rfl
          rotate_left
          ·simp only [Act.put,qSa,qSb,qSc,qm,qq]
           rfl
          refine qw (i:=12) (N:=some 28) (v:=?_) (a':=?_) #[true,true,true,true,true,true,true,true,true,true,true,true,true,false,false,false,false,false,false,false,false,false,false,false,false,false,false,false,false] rfl rfl (qn HT_.out (by kernel_rfl)) (fun _ _ _ h=>h) (Or.inl ⟨by rfl,?_⟩) ?_ ?_;rotate_left
          ·intro w'
           go_simp
           with_reducible rfl
          rotate_left
          ·simp only [Act.put,qSa,qSb,qSc,qm,qq]
           rfl
          refine qw (i:=13) (N:=some 29) (v:=?_) (a':=?_) #[true,true,true,true,true,true,true,true,true,true,true,true,true,true,false,false,false,false,false,false,false,false,false,false,false,false,false,false,false] rfl rfl (qn HT_.out (by kernel_rfl)) (fun _ _ _ h=>h) (Or.inl ⟨by rfl,?_⟩) ?_ ?_;rotate_left
          ·intro w'
           go_simp
           with_reducible rfl
          rotate_left
          ·simp only [Act.put,qSa,qSb,qSc,qm,qq]
           rfl
          refine vZ (i:=14) (N:=some 30) (v:=?_) (a':=?_) #[true,true,true,true,true,true,true,true,true,true,true,true,true,true,true,false,false,false,false,false,false,false,false,false,false,false,false,false,false] rfl rfl (vu HT_.out HW_.out (by kernel_rfl)) (fun _ _ _ h=>h) (Or.inl ⟨by rfl,?_⟩) hHeld ?_ ?_;rotate_left
          ·rintro w' ⟨s0,s1,s2,s3,s4,s5⟩
           go_simp
           with_reducible rfl
          rotate_left
          ·simp only [Act.put,qSa,qSb,qSc,qm,qq]
           rfl
          refine vZ (i:=15) (N:=some 31) (v:=?_) (a':=?_) #[true,true,true,true,true,true,true,true,true,true,true,true,true,true,true,true,false,false,false,false,false,false,false,false,false,false,false,false,false] rfl rfl (vu HT_.out HW_.out (by kernel_rfl)) (fun _ _ _ h=>h) (Or.inl ⟨by rfl,?_⟩) hHeld ?_ ?_;rotate_left
          ·rintro w' ⟨s0,s1,s2,s3,s4,s5⟩
           go_simp
           with_reducible rfl
          rotate_left
          ·simp only [Act.put,qSa,qSb,qSc,qm,qq]
           rfl
          refine zP (i:=16) (N:=some 32) #[true,true,true,true,true,true,true,true,true,true,true,true,true,true,true,true,true,false,false,false,false,false,false,false,false,false,false,false,false] rfl rfl (zm HT_.out (by kernel_rfl)) (by decide) (fun K hK=>?_);refine zy Tryd.func41 (by kernel_rfl) rfl #[.agg #[.int .i64 a0_0,.slice Ag l0_1.length Ah,.slice Ai l0_2.length Aj]] (by rfl) rfl rfl (by(try simp only [List.map_toArray,List.map_cons,List.map_nil]);first|done|rfl|(simp only [List.length_drop,List.length_take];rfl)) ?_
          with_reducible refine(zf.calls a0_0 _ _ l0_1 _ _ l0_2 AY AZ Ba _ ?side1 ?side2 ?side3 ?side4 A31.out).mono ?_
          (case side1=>repeat(first|exact(Kd.vk HR0_1.out HB.out)|(with_reducible refine Kd.qS ?_ _)|(with_reducible refine Kd.qU ?_ _)|(with_reducible refine Kd.vq ?_)))
          (case side2=>exact Av.out)
          (case side3=>repeat(first|exact(Kd.vk HR0_2.out HB.out)|(with_reducible refine Kd.qS ?_ _)|(with_reducible refine Kd.qU ?_ _)|(with_reducible refine Kd.vq ?_)))
          (case side4=>exact Aw.out)
          rintro e w55 ⟨v347,v350,rfl,ho0,ho1,hb⟩;refine⟨_,rfl,?_⟩;have Ao:=qb.mk (Kd.zq ho0 (qG (by repeat(first|(with_reducible first|exact HB.out|apply qd|apply qa|apply qc|refine qh ?_ Ad.out|refine qh ?_ Ae.out)|exact HB.out))));have Ap:=qb.mk (Kd.zq ho1 (qG (by repeat(first|(with_reducible first|exact HB.out|apply qd|apply qa|apply qc|refine qh ?_ Ad.out|refine qh ?_ Ae.out)|exact HB.out))));have Aq:=qb.mk (qJ (g:=Ac) (o:=.cells #[.int .i64 a0_0,.slice Ag l0_1.length Ah,.slice Ai l0_2.length Aj] 35 (0,0)) (by(with_reducible repeat(first|refine qp ?_ _|refine qu ?_|refine qo ?_ _));exact Aa.out) hb);have AE:=qb.mk (qJ (g:=Af) (o:=.cells #[.int .i64 a1_0,.slice Ar l1_1.length As,.slice At l1_2.length Au] 35 (0,0)) (by(with_reducible repeat(first|refine qp ?_ _|refine qu ?_|refine qo ?_ _));exact Ab.out) hb);have AH:=qb.mk (qB (by repeat(first|(with_reducible first|exact HB.out|apply qd|apply qa|apply qc|refine qh ?_ Ad.out|refine qh ?_ Ae.out)|exact HB.out)) hb);clear Aa;clear Ab;clear HB;have Ak:=Ao;have Am:=Ap;have Aa:=Aq;have Ab:=AE;have HB:=AH;clear Ao Ap Aq AE AH
          (try clear hb)
          (try clear hb2)
          (try clear hk)
          (try clear hi)
          (try clear ho0)
          (try clear ho1)
          obtain⟨Ao56,co56,eo56⟩:=Kd.zn Ak.out
          (first|subst eo56|(injection eo56 with f1_ f2_ f3_;have f4_:=f1_.symm;have f5_:=f3_.symm;clear f1_ f2_ f3_;subst f4_;subst f5_))
          obtain⟨Ao57,co57,eo57⟩:=Kd.zn Am.out
          (first|subst eo57|(injection eo57 with f1_ f2_ f3_;have f4_:=f1_.symm;have f5_:=f3_.symm;clear f1_ f2_ f3_;subst f4_;subst f5_))
          refine hK.out _ _ ⟨(qe Aa.out 0).trans rfl,(qe Aa.out 1).trans rfl,(qe Aa.out 2).trans rfl,(qe Ab.out 0).trans rfl,(qe Ab.out 1).trans rfl,(qe Ab.out 2).trans rfl⟩ (fun hHeld=>?_);clear hK K;refine zz (a':=?_) ?_ ?_;rotate_left
          ·show Act.put _ (some 32) _=_
           simp only [Act.put,qSa,qSb,qSc,qm,qq]
           rfl
          refine zP (i:=17) (N:=some 33) #[true,true,true,true,true,true,true,true,true,true,true,true,true,true,true,true,true,true,false,false,false,false,false,false,false,false,false,false,false] rfl rfl (zm HT_.out (by kernel_rfl)) (by decide) (fun K hK=>?_);refine zy Tryd.func40 (by kernel_rfl) rfl #[.agg #[.int .i64 a0_0,.slice Ag l0_1.length Ah,.slice Ai l0_2.length Aj],.agg #[.int .i64 AY,.slice Ao56 AZ.length co56,.slice Ao57 Ba.length co57]] (by rfl) rfl rfl (by(try simp only [List.map_toArray,List.map_cons,List.map_nil]);first|done|rfl|(simp only [List.length_drop,List.length_take];rfl)) ?_
          with_reducible refine(zg.calls kj20 a0_0 _ _ l0_1 _ _ l0_2 AY _ _ AZ _ _ Ba true _ ?side1 ?side2 ?side3 ?side4 ?side5 ?side6 ?side7 ?side8 A32.out).mono ?_
          (case side1=>repeat(first|exact(Kd.vk HR0_1.out HB.out)|(with_reducible refine Kd.qS ?_ _)|(with_reducible refine Kd.qU ?_ _)|(with_reducible refine Kd.vq ?_)))
          (case side2=>exact Av.out)
          (case side3=>repeat(first|exact(Kd.vk HR0_2.out HB.out)|(with_reducible refine Kd.qS ?_ _)|(with_reducible refine Kd.qU ?_ _)|(with_reducible refine Kd.vq ?_)))
          (case side4=>exact Aw.out)
          (case side5=>repeat(first|exact(Kd.vQ Ak.out).2.2|(with_reducible refine Kd.qS ?_ _)|(with_reducible refine Kd.qU ?_ _)|(with_reducible refine Kd.vq ?_)))
          (case side6=>exact(Kd.vQ Ak.out).2.1)
          (case side7=>repeat(first|exact(Kd.vQ Am.out).2.2|(with_reducible refine Kd.qS ?_ _)|(with_reducible refine Kd.qU ?_ _)|(with_reducible refine Kd.vq ?_)))
          (case side8=>exact(Kd.vQ Am.out).2.1)
          rintro e w58 ⟨rfl,hb⟩;refine⟨_,rfl,?_⟩;have Ao:=qb.mk (Kd.zh (by(with_reducible repeat(first|apply Kd.vB|apply Kd.vA|apply Kd.vK));exact Ak.out) hb);have Ap:=qb.mk (Kd.zh (by(with_reducible repeat(first|apply Kd.vB|apply Kd.vA|apply Kd.vK));exact Am.out) hb);have Aq:=qb.mk (qJ (g:=Ac) (o:=.cells #[.int .i64 a0_0,.slice Ag l0_1.length Ah,.slice Ai l0_2.length Aj] 35 (0,0)) (by(with_reducible repeat(first|refine qp ?_ _|refine qu ?_|refine qo ?_ _));exact Aa.out) hb);have AE:=qb.mk (qJ (g:=Af) (o:=.cells #[.int .i64 a1_0,.slice Ar l1_1.length As,.slice At l1_2.length Au] 35 (0,0)) (by(with_reducible repeat(first|refine qp ?_ _|refine qu ?_|refine qo ?_ _));exact Ab.out) hb);have AH:=qb.mk (qB (by repeat(first|(with_reducible first|exact HB.out|apply qd|apply qa|apply qc|refine qh ?_ Ad.out|refine qh ?_ Ae.out)|exact HB.out)) hb);clear Ak;clear Am;clear Aa;clear Ab;clear HB;have Ak:=Ao;have Am:=Ap;have Aa:=Aq;have Ab:=AE;have HB:=AH;clear Ao Ap Aq AE AH
          (try clear hb)
          (try clear hb2)
          (try clear hk)
          (try clear hi)
          refine hK.out _ _ ⟨(qe Aa.out 0).trans rfl,(qe Aa.out 1).trans rfl,(qe Aa.out 2).trans rfl,(qe Ab.out 0).trans rfl,(qe Ab.out 1).trans rfl,(qe Ab.out 2).trans rfl⟩ (fun hHeld=>?_);clear hK K;refine zz (a':=?_) ?_ ?_;rotate_left
          ·show Act.put _ (some 33) _=_
           simp only [Act.put,qSa,qSb,qSc,qm,qq]
           rfl
          refine qw (i:=18) (N:=some 34) (v:=?_) (a':=?_) #[true,true,true,true,true,true,true,true,true,true,true,true,true,true,true,true,true,true,true,false,false,false,false,false,false,false,false,false,false] rfl rfl (qn HT_.out (by kernel_rfl)) (fun _ _ _ h=>h) (Or.inl ⟨by rfl,?_⟩) ?_ ?_;rotate_left
          ·intro w'
           go_simp
           with_reducible rfl
          rotate_left
          ·simp only [Act.put,qSa,qSb,qSc,qm,qq]
           rfl
          refine qw (i:=19) (N:=some 35) (v:=?_) (a':=?_) #[true,true,true,true,true,true,true,true,true,true,true,true,true,true,true,true,true,true,true,true,false,false,false,false,false,false,false,false,false] rfl rfl (qn HT_.out (by kernel_rfl)) (fun _ _ _ h=>h) (Or.inl ⟨by rfl,?_⟩) ?_ ?_;rotate_left
          ·intro w'
           go_simp
           with_reducible rfl
          rotate_left
          ·simp only [Act.put,qSa,qSb,qSc,qm,qq]
           rfl
          refine vZ (i:=20) (N:=some 36) (v:=?_) (a':=?_) #[true,true,true,true,true,true,true,true,true,true,true,true,true,true,true,true,true,true,true,true,true,false,false,false,false,false,false,false,false] rfl rfl (vu HT_.out HW_.out (by kernel_rfl)) (fun _ _ _ h=>h) (Or.inl ⟨by rfl,?_⟩) hHeld ?_ ?_;rotate_left
          ·rintro w' ⟨s0,s1,s2,s3,s4,s5⟩
           go_simp
           with_reducible rfl
          rotate_left
          ·simp only [Act.put,qSa,qSb,qSc,qm,qq]
           rfl
          refine vZ (i:=22) (N:=some 38) (v:=?_) (a':=?_) #[true,true,true,true,true,true,true,true,true,true,true,true,true,true,true,true,true,true,true,true,true,false,true,false,false,false,false,false,false] rfl rfl (vu HT_.out HW_.out (by kernel_rfl)) (fun _ _ _ h=>h) (Or.inl ⟨by rfl,?_⟩) hHeld ?_ ?_;rotate_left
          ·rintro w' ⟨s0,s1,s2,s3,s4,s5⟩
           go_simp
           with_reducible rfl
          rotate_left
          ·simp only [Act.put,qSa,qSb,qSc,qm,qq]
           rfl
          refine zP (i:=21) (N:=some 37) #[true,true,true,true,true,true,true,true,true,true,true,true,true,true,true,true,true,true,true,true,true,true,true,false,false,false,false,false,false] rfl rfl (zm HT_.out (by kernel_rfl)) (by decide) (fun K hK=>?_);refine zy Tryd.func41 (by kernel_rfl) rfl #[.agg #[.int .i64 a0_0,.slice Ag l0_1.length Ah,.slice Ai l0_2.length Aj]] (by rfl) rfl rfl (by(try simp only [List.map_toArray,List.map_cons,List.map_nil]);first|done|rfl|(simp only [List.length_drop,List.length_take];rfl)) ?_
          with_reducible refine(zf.calls a0_0 _ _ l0_1 _ _ l0_2 Be Bf Bg _ ?side1 ?side2 ?side3 ?side4 A34.out).mono ?_
          (case side1=>repeat(first|exact(Kd.vk HR0_1.out HB.out)|(with_reducible refine Kd.qS ?_ _)|(with_reducible refine Kd.qU ?_ _)|(with_reducible refine Kd.vq ?_)))
          (case side2=>exact Av.out)
          (case side3=>repeat(first|exact(Kd.vk HR0_2.out HB.out)|(with_reducible refine Kd.qS ?_ _)|(with_reducible refine Kd.qU ?_ _)|(with_reducible refine Kd.vq ?_)))
          (case side4=>exact Aw.out)
          rintro e w59 ⟨v355,v358,rfl,ho0,ho1,hb⟩;refine⟨_,rfl,?_⟩;have Ao:=qb.mk (Kd.jg (by(with_reducible repeat(first|apply Kd.vB|apply Kd.vA|apply Kd.vK));exact Ak.out) (Kd.jY ho0) hb);have Ap:=qb.mk (Kd.jg (by(with_reducible repeat(first|apply Kd.vB|apply Kd.vA|apply Kd.vK));exact Am.out) (Kd.jY ho1) hb);have Aq:=qb.mk (Kd.zq (Kd.jX ho0 (Kd.Zv (by(with_reducible repeat(first|apply Kd.vB|apply Kd.vA|apply Kd.vK));exact Ak.out))) (qG (by repeat(first|(with_reducible first|exact HB.out|apply qd|apply qa|apply qc|refine qh ?_ Ad.out|refine qh ?_ Ae.out)|exact HB.out))));have AE:=qb.mk (Kd.zq (Kd.jX ho1 (Kd.Zv (by(with_reducible repeat(first|apply Kd.vB|apply Kd.vA|apply Kd.vK));exact Am.out))) (qG (by repeat(first|(with_reducible first|exact HB.out|apply qd|apply qa|apply qc|refine qh ?_ Ad.out|refine qh ?_ Ae.out)|exact HB.out))));have AH:=qb.mk (qJ (g:=Ac) (o:=.cells #[.int .i64 a0_0,.slice Ag l0_1.length Ah,.slice Ai l0_2.length Aj] 35 (0,0)) (by(with_reducible repeat(first|refine qp ?_ _|refine qu ?_|refine qo ?_ _));exact Aa.out) hb);have Bb:=qb.mk (qJ (g:=Af) (o:=.cells #[.int .i64 a1_0,.slice Ar l1_1.length As,.slice At l1_2.length Au] 35 (0,0)) (by(with_reducible repeat(first|refine qp ?_ _|refine qu ?_|refine qo ?_ _));exact Ab.out) hb);have Bc:=qb.mk (qB (by repeat(first|(with_reducible first|exact HB.out|apply qd|apply qa|apply qc|refine qh ?_ Ad.out|refine qh ?_ Ae.out)|exact HB.out)) hb);clear Ak;clear Am;clear Aa;clear Ab;clear HB;have Ak:=Ao;have Am:=Ap;have AA:=Aq;have AB:=AE;have Aa:=AH;have Ab:=Bb;have HB:=Bc;clear Ao Ap Aq AE AH Bb Bc
          (try clear hb)
          (try clear hb2)
          (try clear hk)
          (try clear hi)
          (try clear ho0)
          (try clear ho1)
          obtain⟨Ao60,co60,eo60⟩:=Kd.zn AA.out
          (first|subst eo60|(injection eo60 with f1_ f2_ f3_;have f4_:=f1_.symm;have f5_:=f3_.symm;clear f1_ f2_ f3_;subst f4_;subst f5_))
          obtain⟨Ao61,co61,eo61⟩:=Kd.zn AB.out
          (first|subst eo61|(injection eo61 with f1_ f2_ f3_;have f4_:=f1_.symm;have f5_:=f3_.symm;clear f1_ f2_ f3_;subst f4_;subst f5_))
          refine hK.out _ _ ⟨(qe Aa.out 0).trans rfl,(qe Aa.out 1).trans rfl,(qe Aa.out 2).trans rfl,(qe Ab.out 0).trans rfl,(qe Ab.out 1).trans rfl,(qe Ab.out 2).trans rfl⟩ (fun hHeld=>?_);clear hK K;refine zz (a':=?_) ?_ ?_;rotate_left
          ·show Act.put _ (some 37) _=_
           simp only [Act.put,qSa,qSb,qSc,qm,qq]
           rfl
          refine zP (i:=23) (N:=some 39) #[true,true,true,true,true,true,true,true,true,true,true,true,true,true,true,true,true,true,true,true,true,true,true,true,false,false,false,false,false] rfl rfl (zm HT_.out (by kernel_rfl)) (by decide) (fun K hK=>?_);refine zy Tryd.func36 (by kernel_rfl) rfl #[.agg #[.int .i64 Be,.slice Ao60 Bf.length co60,.slice Ao61 Bg.length co61],.agg #[.int .i64 a0_0,.slice Ag l0_1.length Ah,.slice Ai l0_2.length Aj]] (by rfl) rfl rfl (by(try simp only [List.map_toArray,List.map_cons,List.map_nil]);first|done|rfl|(simp only [List.length_drop,List.length_take];rfl)) ?_
          with_reducible refine(qX.calls kj20 Be _ _ Bf _ _ Bg a0_0 _ _ l0_1 _ _ l0_2 false _ ?side1 ?side2 ?side3 ?side4 ?side5 ?side6 ?side7 ?side8 A35.out).mono ?_
          (case side1=>repeat(first|exact(Kd.vQ AA.out).2.2|(with_reducible refine Kd.qS ?_ _)|(with_reducible refine Kd.qU ?_ _)|(with_reducible refine Kd.vq ?_)))
          (case side2=>exact(Kd.vQ AA.out).2.1)
          (case side3=>repeat(first|exact(Kd.vQ AB.out).2.2|(with_reducible refine Kd.qS ?_ _)|(with_reducible refine Kd.qU ?_ _)|(with_reducible refine Kd.vq ?_)))
          (case side4=>exact(Kd.vQ AB.out).2.1)
          (case side5=>repeat(first|exact(Kd.vk HR0_1.out HB.out)|(with_reducible refine Kd.qS ?_ _)|(with_reducible refine Kd.qU ?_ _)|(with_reducible refine Kd.vq ?_)))
          (case side6=>exact Av.out)
          (case side7=>repeat(first|exact(Kd.vk HR0_2.out HB.out)|(with_reducible refine Kd.qS ?_ _)|(with_reducible refine Kd.qU ?_ _)|(with_reducible refine Kd.vq ?_)))
          (case side8=>exact Aw.out)
          rintro e w62 ⟨rfl,hb⟩;refine⟨_,rfl,?_⟩;have Ao:=qb.mk (Kd.zh (by(with_reducible repeat(first|apply Kd.vB|apply Kd.vA|apply Kd.vK));exact Ak.out) hb);have Ap:=qb.mk (Kd.zh (by(with_reducible repeat(first|apply Kd.vB|apply Kd.vA|apply Kd.vK));exact Am.out) hb);have Aq:=qb.mk (Kd.zh (by(with_reducible repeat(first|apply Kd.vB|apply Kd.vA|apply Kd.vK));exact AA.out) hb);have AE:=qb.mk (Kd.zh (by(with_reducible repeat(first|apply Kd.vB|apply Kd.vA|apply Kd.vK));exact AB.out) hb);have AH:=qb.mk (qJ (g:=Ac) (o:=.cells #[.int .i64 a0_0,.slice Ag l0_1.length Ah,.slice Ai l0_2.length Aj] 35 (0,0)) (by(with_reducible repeat(first|refine qp ?_ _|refine qu ?_|refine qo ?_ _));exact Aa.out) hb);have Bb:=qb.mk (qJ (g:=Af) (o:=.cells #[.int .i64 a1_0,.slice Ar l1_1.length As,.slice At l1_2.length Au] 35 (0,0)) (by(with_reducible repeat(first|refine qp ?_ _|refine qu ?_|refine qo ?_ _));exact Ab.out) hb);have Bc:=qb.mk (qB (by repeat(first|(with_reducible first|exact HB.out|apply qd|apply qa|apply qc|refine qh ?_ Ad.out|refine qh ?_ Ae.out)|exact HB.out)) hb);clear Ak;clear Am;clear AA;clear AB;clear Aa;clear Ab;clear HB;have Ak:=Ao;have Am:=Ap;have AA:=Aq;have AB:=AE;have Aa:=AH;have Ab:=Bb;have HB:=Bc;clear Ao Ap Aq AE AH Bb Bc
          (try clear hb)
          (try clear hb2)
          (try clear hk)
          (try clear hi)
          refine hK.out _ _ ⟨(qe Aa.out 0).trans rfl,(qe Aa.out 1).trans rfl,(qe Aa.out 2).trans rfl,(qe Ab.out 0).trans rfl,(qe Ab.out 1).trans rfl,(qe Ab.out 2).trans rfl⟩ (fun hHeld=>?_);clear hK K;refine zz (a':=?_) ?_ ?_;rotate_left
          ·show Act.put _ (some 39) _=_
           simp only [Act.put,qSa,qSb,qSc,qm,qq]
           rfl
          refine qw (i:=24) (N:=some 40) (v:=?_) (a':=?_) #[true,true,true,true,true,true,true,true,true,true,true,true,true,true,true,true,true,true,true,true,true,true,true,true,true,false,false,false,false] rfl rfl (qn HT_.out (by kernel_rfl)) (fun _ _ _ h=>h) (Or.inl ⟨by rfl,?_⟩) ?_ ?_;rotate_left
          ·intro w'
           go_simp
           with_reducible rfl
          rotate_left
          ·simp only [Act.put,qSa,qSb,qSc,qm,qq]
           rfl
          refine qw (i:=25) (N:=some 41) (v:=?_) (a':=?_) #[true,true,true,true,true,true,true,true,true,true,true,true,true,true,true,true,true,true,true,true,true,true,true,true,true,true,false,false,false] rfl rfl (qn HT_.out (by kernel_rfl)) (fun _ _ _ h=>h) (Or.inl ⟨by rfl,?_⟩) ?_ ?_;rotate_left
          ·intro w'
           go_simp
           with_reducible rfl
          rotate_left
          ·simp only [Act.put,qSa,qSb,qSc,qm,qq]
           rfl
          refine qw (i:=26) (N:=some 42) (v:=undef) (a':=?_) #[true,true,true,true,true,true,true,true,true,true,true,true,true,true,true,true,true,true,true,true,true,true,true,true,true,true,true,false,false] rfl rfl (qn HT_.out (by kernel_rfl)) (fun _ _ _ h=>h) (Or.inr ⟨by rfl,rfl⟩) ?_ ?_;rotate_left
          ·simp only [Act.put,qSa,qSb,qSc,qm,qq]
           rfl
          refine qw (i:=27) (N:=some 43) (v:=?_) (a':=?_) #[true,true,true,true,true,true,true,true,true,true,true,true,true,true,true,true,true,true,true,true,true,true,true,true,true,true,true,true,false] rfl rfl (qn HT_.out (by kernel_rfl)) (fun _ _ _ h=>h) (Or.inl ⟨by rfl,?_⟩) ?_ ?_;rotate_left
          ·intro w'
           go_simp
           with_reducible rfl
          rotate_left
          ·simp only [Act.put,qSa,qSb,qSc,qm,qq]
           rfl
          refine qw (i:=28) (N:=some 4) (v:=?_) (a':=?_) #[true,true,true,true,true,true,true,true,true,true,true,true,true,true,true,true,true,true,true,true,true,true,true,true,true,true,true,true,true] rfl rfl (qn HT_.out (by kernel_rfl)) (fun _ _ _ h=>h) (Or.inl ⟨by rfl,?_⟩) ?_ ?_;rotate_left
          ·intro w'
           go_simp
           with_reducible rfl
          rotate_left
          ·simp only [Act.put,qSa,qSb,qSc,qm,qq]
           rfl
          refine jn (zK HT_.out (by kernel_rfl)) ?_;try go_wp2
          go_ret
          exact⟨by first|rfl|(simp [qK,qL] <;> rfl)|(simp [*,qK,qL] <;> rfl),by repeat(first|(with_reducible first|exact HB.out|apply qd|apply qa|apply qc|refine qh ?_ Ad.out|refine qh ?_ Ae.out)|exact HB.out)⟩
        ·replace c33:=Bool.eq_false_iff.mpr c33
         subst c33;have H1 : (some false)=some r:=by rw [if_neg (show ¬ (false=true) by decide)] at H;exact H
         clear H;have H:=H1;clear H1;obtain rfl:=Option.some.inj H;try go_wp2
         have Ao:=qb.mk (qu Aa.out);have Ap:=qb.mk (qu Ab.out);have Aq:=qb.mk (qc HB.out);clear Aa;clear Ab;clear HB;have Aa:=Ao;have Ab:=Ap;have HB:=Aq;clear Ao Ap Aq;refine zS (n:=29) (S:=fun w'=>w'.cell? ⟨Ac,0,none⟩=some (.int .i64 a0_0)∧w'.cell? ⟨Ac,1,none⟩=some (.slice Ag l0_1.length Ah)∧w'.cell? ⟨Ac,2,none⟩=some (.slice Ai l0_2.length Aj)∧w'.cell? ⟨Af,0,none⟩=some (.int .i64 a1_0)∧w'.cell? ⟨Af,1,none⟩=some (.slice Ar l1_1.length As)∧w'.cell? ⟨Af,2,none⟩=some (.slice At l1_2.length Au)) (ds:=[]) #[false,false,false,false,false,false,false,false,false,false,false,false,false,false,false,false,false,false,false,false,false,false,false,false,false,false,false,false,false] (by kernel_rfl) rfl rfl ⟨(qe Aa.out 0).trans rfl,(qe Aa.out 1).trans rfl,(qe Aa.out 2).trans rfl,(qe Ab.out 0).trans rfl,(qe Ab.out 1).trans rfl,(qe Ab.out 2).trans rfl⟩ (fun hHeld=>?_);refine zu qt.tab6 qt.bits6 (fun HT_ HW_=>?_)
         generalize wc.drew=w63 at Aa Ab HB hHeld ⊢
         refine qw (i:=2) (N:=some 18) (v:=?_) (a':=?_) #[false,false,true,false,false,false,false,false,false,false,false,false,false,false,false,false,false,false,false,false,false,false,false,false,false,false,false,false,false] rfl rfl (qn HT_.out (by kernel_rfl)) (fun _ _ _ h=>h) (Or.inl ⟨by rfl,?_⟩) ?_ ?_;rotate_left
         ·intro w'
          go_simp
          with_reducible rfl
         rotate_left
         ·simp only [Act.put,qSa,qSb,qSc,qm,qq]
          rfl
         refine vZ (i:=0) (N:=some 16) (v:=?_) (a':=?_) #[true,false,true,false,false,false,false,false,false,false,false,false,false,false,false,false,false,false,false,false,false,false,false,false,false,false,false,false,false] rfl rfl (vu HT_.out HW_.out (by kernel_rfl)) (fun _ _ _ h=>h) (Or.inl ⟨by rfl,?_⟩) hHeld ?_ ?_;rotate_left
         ·rintro w' ⟨s0,s1,s2,s3,s4,s5⟩
          go_simp
          with_reducible rfl
         rotate_left
         ·simp only [Act.put,qSa,qSb,qSc,qm,qq]
          rfl
         refine zP (i:=1) (N:=some 17) #[true,true,true,false,false,false,false,false,false,false,false,false,false,false,false,false,false,false,false,false,false,false,false,false,false,false,false,false,false] rfl rfl (zm HT_.out (by kernel_rfl)) (by decide) (fun K hK=>?_);refine zy Tryd.func39 (by kernel_rfl) rfl #[.agg #[.int .i64 a0_0,.slice Ag l0_1.length Ah,.slice Ai l0_2.length Aj]] (by rfl) rfl rfl (by(try simp only [List.map_toArray,List.map_cons,List.map_nil]);first|done|rfl|(simp only [List.length_drop,List.length_take];rfl)) ?_
         with_reducible refine(vz.calls kj20 a0_0 _ _ l0_1 _ _ l0_2 AR _ ?side1 ?side2 ?side3 ?side4 A26.out (HT.out.go (by repeat(first|(with_reducible first|exact HB.out|apply qd|apply qa|apply qc|refine qh ?_ Ad.out|refine qh ?_ Ae.out)|exact HB.out)))).mono ?_
         (case side1=>repeat(first|exact(Kd.vk HR0_1.out HB.out)|(with_reducible refine Kd.qS ?_ _)|(with_reducible refine Kd.qU ?_ _)|(with_reducible refine Kd.vq ?_)))
         (case side2=>exact Av.out)
         (case side3=>repeat(first|exact(Kd.vk HR0_2.out HB.out)|(with_reducible refine Kd.qS ?_ _)|(with_reducible refine Kd.qU ?_ _)|(with_reducible refine Kd.vq ?_)))
         (case side4=>exact Aw.out)
         rintro e w64 ⟨rfl,hb⟩;refine⟨_,rfl,?_⟩;have Ao:=qb.mk (qJ (g:=Ac) (o:=.cells #[.int .i64 a0_0,.slice Ag l0_1.length Ah,.slice Ai l0_2.length Aj] 35 (0,0)) (by(with_reducible repeat(first|refine qp ?_ _|refine qu ?_|refine qo ?_ _));exact Aa.out) hb);have Ap:=qb.mk (qJ (g:=Af) (o:=.cells #[.int .i64 a1_0,.slice Ar l1_1.length As,.slice At l1_2.length Au] 35 (0,0)) (by(with_reducible repeat(first|refine qp ?_ _|refine qu ?_|refine qo ?_ _));exact Ab.out) hb);have Aq:=qb.mk (qB (by repeat(first|(with_reducible first|exact HB.out|apply qd|apply qa|apply qc|refine qh ?_ Ad.out|refine qh ?_ Ae.out)|exact HB.out)) hb);clear Aa;clear Ab;clear HB;have Aa:=Ao;have Ab:=Ap;have HB:=Aq;clear Ao Ap Aq
         (try clear hb)
         (try clear hb2)
         (try clear hk)
         (try clear hi)
         refine hK.out _ _ ⟨(qe Aa.out 0).trans rfl,(qe Aa.out 1).trans rfl,(qe Aa.out 2).trans rfl,(qe Ab.out 0).trans rfl,(qe Ab.out 1).trans rfl,(qe Ab.out 2).trans rfl⟩ (fun hHeld=>?_);clear hK K;refine zz (a':=?_) ?_ ?_;rotate_left
         ·show Act.put _ (some 17) _=_
          simp only [Act.put,qSa,qSb,qSc,qm,qq]
          rfl
         refine qw (i:=3) (N:=some 19) (v:=?_) (a':=?_) #[true,true,true,true,false,false,false,false,false,false,false,false,false,false,false,false,false,false,false,false,false,false,false,false,false,false,false,false,false] rfl rfl (qn HT_.out (by kernel_rfl)) (fun _ _ _ h=>h) (Or.inl ⟨by rfl,?_⟩) ?_ ?_;rotate_left
         ·intro w'
          go_simp
          with_reducible rfl
         rotate_left
         ·simp only [Act.put,qSa,qSb,qSc,qm,qq]
          rfl
         refine qw (i:=4) (N:=some 20) (v:=?_) (a':=?_) #[true,true,true,true,true,false,false,false,false,false,false,false,false,false,false,false,false,false,false,false,false,false,false,false,false,false,false,false,false] rfl rfl (qn HT_.out (by kernel_rfl)) (fun _ _ _ h=>h) (Or.inl ⟨by rfl,?_⟩) ?_ ?_;rotate_left
         ·intro w'
          go_simp
          with_reducible rfl
         rotate_left
         ·simp only [Act.put,qSa,qSb,qSc,qm,qq]
          rfl
         refine vZ (i:=5) (N:=some 21) (v:=?_) (a':=?_) #[true,true,true,true,true,true,false,false,false,false,false,false,false,false,false,false,false,false,false,false,false,false,false,false,false,false,false,false,false] rfl rfl (vu HT_.out HW_.out (by kernel_rfl)) (fun _ _ _ h=>h) (Or.inl ⟨by rfl,?_⟩) hHeld ?_ ?_;rotate_left
         ·rintro w' ⟨s0,s1,s2,s3,s4,s5⟩
          go_simp
          with_reducible rfl
         rotate_left
         ·simp only [Act.put,qSa,qSb,qSc,qm,qq]
          rfl
         refine vZ (i:=6) (N:=some 22) (v:=?_) (a':=?_) #[true,true,true,true,true,true,true,false,false,false,false,false,false,false,false,false,false,false,false,false,false,false,false,false,false,false,false,false,false] rfl rfl (vu HT_.out HW_.out (by kernel_rfl)) (fun _ _ _ h=>h) (Or.inl ⟨by rfl,?_⟩) hHeld ?_ ?_;rotate_left
         ·rintro w' ⟨s0,s1,s2,s3,s4,s5⟩
          go_simp
          with_reducible rfl
         rotate_left
         ·simp only [Act.put,qSa,qSb,qSc,qm,qq]
          rfl
         refine vZ (i:=8) (N:=some 24) (v:=?_) (a':=?_) #[true,true,true,true,true,true,true,false,true,false,false,false,false,false,false,false,false,false,false,false,false,false,false,false,false,false,false,false,false] rfl rfl (vu HT_.out HW_.out (by kernel_rfl)) (fun _ _ _ h=>h) (Or.inl ⟨by rfl,?_⟩) hHeld ?_ ?_;rotate_left
         ·rintro w' ⟨s0,s1,s2,s3,s4,s5⟩
          go_simp
          with_reducible rfl
         rotate_left
         ·simp only [Act.put,qSa,qSb,qSc,qm,qq]
          rfl
         refine vZ (i:=9) (N:=some 25) (v:=?_) (a':=?_) #[true,true,true,true,true,true,true,false,true,true,false,false,false,false,false,false,false,false,false,false,false,false,false,false,false,false,false,false,false] rfl rfl (vu HT_.out HW_.out (by kernel_rfl)) (fun _ _ _ h=>h) (Or.inl ⟨by rfl,?_⟩) hHeld ?_ ?_;rotate_left
         ·rintro w' ⟨s0,s1,s2,s3,s4,s5⟩
          go_simp
          with_reducible rfl
         rotate_left
         ·simp only [Act.put,qSa,qSb,qSc,qm,qq]
          rfl
         refine zP (i:=7) (N:=some 23) #[true,true,true,true,true,true,true,true,true,true,false,false,false,false,false,false,false,false,false,false,false,false,false,false,false,false,false,false,false] rfl rfl (zm HT_.out (by kernel_rfl)) (by decide) (fun K hK=>?_);refine zy Tryd.func40 (by kernel_rfl) rfl #[.agg #[.int .i64 a0_0,.slice Ag l0_1.length Ah,.slice Ai l0_2.length Aj],.agg #[.int .i64 a1_0,.slice Ar l1_1.length As,.slice At l1_2.length Au]] (by rfl) rfl rfl (by(try simp only [List.map_toArray,List.map_cons,List.map_nil]);first|done|rfl|(simp only [List.length_drop,List.length_take];rfl)) ?_
         with_reducible refine(zg.calls kj20 a0_0 _ _ l0_1 _ _ l0_2 a1_0 _ _ l1_1 _ _ l1_2 AF _ ?side1 ?side2 ?side3 ?side4 ?side5 ?side6 ?side7 ?side8 A28.out).mono ?_
         (case side1=>repeat(first|exact(Kd.vk HR0_1.out HB.out)|(with_reducible refine Kd.qS ?_ _)|(with_reducible refine Kd.qU ?_ _)|(with_reducible refine Kd.vq ?_)))
         (case side2=>exact Av.out)
         (case side3=>repeat(first|exact(Kd.vk HR0_2.out HB.out)|(with_reducible refine Kd.qS ?_ _)|(with_reducible refine Kd.qU ?_ _)|(with_reducible refine Kd.vq ?_)))
         (case side4=>exact Aw.out)
         (case side5=>repeat(first|exact(Kd.vk HR1_1.out HB.out)|(with_reducible refine Kd.qS ?_ _)|(with_reducible refine Kd.qU ?_ _)|(with_reducible refine Kd.vq ?_)))
         (case side6=>exact AM.out)
         (case side7=>repeat(first|exact(Kd.vk HR1_2.out HB.out)|(with_reducible refine Kd.qS ?_ _)|(with_reducible refine Kd.qU ?_ _)|(with_reducible refine Kd.vq ?_)))
         (case side8=>exact AP.out)
         rintro e w65 ⟨rfl,hb⟩;refine⟨_,rfl,?_⟩;have Ao:=qb.mk (qJ (g:=Ac) (o:=.cells #[.int .i64 a0_0,.slice Ag l0_1.length Ah,.slice Ai l0_2.length Aj] 35 (0,0)) (by(with_reducible repeat(first|refine qp ?_ _|refine qu ?_|refine qo ?_ _));exact Aa.out) hb);have Ap:=qb.mk (qJ (g:=Af) (o:=.cells #[.int .i64 a1_0,.slice Ar l1_1.length As,.slice At l1_2.length Au] 35 (0,0)) (by(with_reducible repeat(first|refine qp ?_ _|refine qu ?_|refine qo ?_ _));exact Ab.out) hb);have Aq:=qb.mk (qB (by repeat(first|(with_reducible first|exact HB.out|apply qd|apply qa|apply qc|refine qh ?_ Ad.out|refine qh ?_ Ae.out)|exact HB.out)) hb);clear Aa;clear Ab;clear HB;have Aa:=Ao;have Ab:=Ap;have HB:=Aq;clear Ao Ap Aq
         (try clear hb)
         (try clear hb2)
         (try clear hk)
         (try clear hi)
         refine hK.out _ _ ⟨(qe Aa.out 0).trans rfl,(qe Aa.out 1).trans rfl,(qe Aa.out 2).trans rfl,(qe Ab.out 0).trans rfl,(qe Ab.out 1).trans rfl,(qe Ab.out 2).trans rfl⟩ (fun hHeld=>?_);clear hK K;refine zz (a':=?_) ?_ ?_;rotate_left
         ·show Act.put _ (some 23) _=_
          simp only [Act.put,qSa,qSb,qSc,qm,qq]
          rfl
         refine zP (i:=10) (N:=some 26) #[true,true,true,true,true,true,true,true,true,true,true,false,false,false,false,false,false,false,false,false,false,false,false,false,false,false,false,false,false] rfl rfl (zm HT_.out (by kernel_rfl)) (by decide) (fun K hK=>?_);refine zy Tryd.func36 (by kernel_rfl) rfl #[.agg #[.int .i64 a0_0,.slice Ag l0_1.length Ah,.slice Ai l0_2.length Aj],.agg #[.int .i64 a1_0,.slice Ar l1_1.length As,.slice At l1_2.length Au]] (by rfl) rfl rfl (by(try simp only [List.map_toArray,List.map_cons,List.map_nil]);first|done|rfl|(simp only [List.length_drop,List.length_take];rfl)) ?_
         with_reducible refine(qX.calls kj20 a0_0 _ _ l0_1 _ _ l0_2 a1_0 _ _ l1_1 _ _ l1_2 AD _ ?side1 ?side2 ?side3 ?side4 ?side5 ?side6 ?side7 ?side8 A29.out).mono ?_
         (case side1=>repeat(first|exact(Kd.vk HR0_1.out HB.out)|(with_reducible refine Kd.qS ?_ _)|(with_reducible refine Kd.qU ?_ _)|(with_reducible refine Kd.vq ?_)))
         (case side2=>exact Av.out)
         (case side3=>repeat(first|exact(Kd.vk HR0_2.out HB.out)|(with_reducible refine Kd.qS ?_ _)|(with_reducible refine Kd.qU ?_ _)|(with_reducible refine Kd.vq ?_)))
         (case side4=>exact Aw.out)
         (case side5=>repeat(first|exact(Kd.vk HR1_1.out HB.out)|(with_reducible refine Kd.qS ?_ _)|(with_reducible refine Kd.qU ?_ _)|(with_reducible refine Kd.vq ?_)))
         (case side6=>exact AM.out)
         (case side7=>repeat(first|exact(Kd.vk HR1_2.out HB.out)|(with_reducible refine Kd.qS ?_ _)|(with_reducible refine Kd.qU ?_ _)|(with_reducible refine Kd.vq ?_)))
         (case side8=>exact AP.out)
         rintro e w66 ⟨rfl,hb⟩;refine⟨_,rfl,?_⟩;have Ao:=qb.mk (qJ (g:=Ac) (o:=.cells #[.int .i64 a0_0,.slice Ag l0_1.length Ah,.slice Ai l0_2.length Aj] 35 (0,0)) (by(with_reducible repeat(first|refine qp ?_ _|refine qu ?_|refine qo ?_ _));exact Aa.out) hb);have Ap:=qb.mk (qJ (g:=Af) (o:=.cells #[.int .i64 a1_0,.slice Ar l1_1.length As,.slice At l1_2.length Au] 35 (0,0)) (by(with_reducible repeat(first|refine qp ?_ _|refine qu ?_|refine qo ?_ _));exact Ab.out) hb);have Aq:=qb.mk (qB (by repeat(first|(with_reducible first|exact HB.out|apply qd|apply qa|apply qc|refine qh ?_ Ad.out|refine qh ?_ Ae.out)|exact HB.out)) hb);clear Aa;clear Ab;clear HB;have Aa:=Ao;have Ab:=Ap;have HB:=Aq;clear Ao Ap Aq
         (try clear hb)
         (try clear hb2)
         (try clear hk)
         (try clear hi)
         refine hK.out _ _ ⟨(qe Aa.out 0).trans rfl,(qe Aa.out 1).trans rfl,(qe Aa.out 2).trans rfl,(qe Ab.out 0).trans rfl,(qe Ab.out 1).trans rfl,(qe Ab.out 2).trans rfl⟩ (fun hHeld=>?_);clear hK K;refine zz (a':=?_) ?_ ?_;rotate_left
         ·show Act.put _ (some 26) _=_
          simp only [Act.put,qSa,qSb,qSc,qm,qq]
          rfl
         refine qw (i:=11) (N:=some 27) (v:=?_) (a':=?_) #[true,true,true,true,true,true,true,true,true,true,true,true,false,false,false,false,false,false,false,false,false,false,false,false,false,false,false,false,false] rfl rfl (qn HT_.out (by kernel_rfl)) (fun _ _ _ h=>h) (Or.inl ⟨by rfl,?_⟩) ?_ ?_;rotate_left
         ·intro w'
          go_simp
          with_reducible rfl
         rotate_left
         ·simp only [Act.put,qSa,qSb,qSc,qm,qq]
          rfl
         refine qw (i:=12) (N:=some 28) (v:=?_) (a':=?_) #[true,true,true,true,true,true,true,true,true,true,true,true,true,false,false,false,false,false,false,false,false,false,false,false,false,false,false,false,false] rfl rfl (qn HT_.out (by kernel_rfl)) (fun _ _ _ h=>h) (Or.inl ⟨by rfl,?_⟩) ?_ ?_;rotate_left
         ·intro w'
          go_simp
          with_reducible rfl
         rotate_left
         ·simp only [Act.put,qSa,qSb,qSc,qm,qq]
          rfl
         refine qw (i:=13) (N:=some 29) (v:=?_) (a':=?_) #[true,true,true,true,true,true,true,true,true,true,true,true,true,true,false,false,false,false,false,false,false,false,false,false,false,false,false,false,false] rfl rfl (qn HT_.out (by kernel_rfl)) (fun _ _ _ h=>h) (Or.inl ⟨by rfl,?_⟩) ?_ ?_;rotate_left
         ·intro w'
          go_simp
          with_reducible rfl
         rotate_left
         ·simp only [Act.put,qSa,qSb,qSc,qm,qq]
          rfl
         refine vZ (i:=14) (N:=some 30) (v:=?_) (a':=?_) #[true,true,true,true,true,true,true,true,true,true,true,true,true,true,true,false,false,false,false,false,false,false,false,false,false,false,false,false,false] rfl rfl (vu HT_.out HW_.out (by kernel_rfl)) (fun _ _ _ h=>h) (Or.inl ⟨by rfl,?_⟩) hHeld ?_ ?_;rotate_left
         ·rintro w' ⟨s0,s1,s2,s3,s4,s5⟩
          go_simp
          with_reducible rfl
         rotate_left
         ·simp only [Act.put,qSa,qSb,qSc,qm,qq]
          rfl
         refine vZ (i:=15) (N:=some 31) (v:=?_) (a':=?_) #[true,true,true,true,true,true,true,true,true,true,true,true,true,true,true,true,false,false,false,false,false,false,false,false,false,false,false,false,false] rfl rfl (vu HT_.out HW_.out (by kernel_rfl)) (fun _ _ _ h=>h) (Or.inl ⟨by rfl,?_⟩) hHeld ?_ ?_;rotate_left
         ·rintro w' ⟨s0,s1,s2,s3,s4,s5⟩
          go_simp
          with_reducible rfl
         rotate_left
         ·simp only [Act.put,qSa,qSb,qSc,qm,qq]
          rfl
         refine zP (i:=16) (N:=some 32) #[true,true,true,true,true,true,true,true,true,true,true,true,true,true,true,true,true,false,false,false,false,false,false,false,false,false,false,false,false] rfl rfl (zm HT_.out (by kernel_rfl)) (by decide) (fun K hK=>?_);refine zy Tryd.func41 (by kernel_rfl) rfl #[.agg #[.int .i64 a0_0,.slice Ag l0_1.length Ah,.slice Ai l0_2.length Aj]] (by rfl) rfl rfl (by(try simp only [List.map_toArray,List.map_cons,List.map_nil]);first|done|rfl|(simp only [List.length_drop,List.length_take];rfl)) ?_
         with_reducible refine(zf.calls a0_0 _ _ l0_1 _ _ l0_2 AY AZ Ba _ ?side1 ?side2 ?side3 ?side4 A31.out).mono ?_
         (case side1=>repeat(first|exact(Kd.vk HR0_1.out HB.out)|(with_reducible refine Kd.qS ?_ _)|(with_reducible refine Kd.qU ?_ _)|(with_reducible refine Kd.vq ?_)))
         (case side2=>exact Av.out)
         (case side3=>repeat(first|exact(Kd.vk HR0_2.out HB.out)|(with_reducible refine Kd.qS ?_ _)|(with_reducible refine Kd.qU ?_ _)|(with_reducible refine Kd.vq ?_)))
         (case side4=>exact Aw.out)
         rintro e w67 ⟨v347,v350,rfl,ho0,ho1,hb⟩;refine⟨_,rfl,?_⟩;have Ao:=qb.mk (Kd.zq ho0 (qG (by repeat(first|(with_reducible first|exact HB.out|apply qd|apply qa|apply qc|refine qh ?_ Ad.out|refine qh ?_ Ae.out)|exact HB.out))));have Ap:=qb.mk (Kd.zq ho1 (qG (by repeat(first|(with_reducible first|exact HB.out|apply qd|apply qa|apply qc|refine qh ?_ Ad.out|refine qh ?_ Ae.out)|exact HB.out))));have Aq:=qb.mk (qJ (g:=Ac) (o:=.cells #[.int .i64 a0_0,.slice Ag l0_1.length Ah,.slice Ai l0_2.length Aj] 35 (0,0)) (by(with_reducible repeat(first|refine qp ?_ _|refine qu ?_|refine qo ?_ _));exact Aa.out) hb);have AE:=qb.mk (qJ (g:=Af) (o:=.cells #[.int .i64 a1_0,.slice Ar l1_1.length As,.slice At l1_2.length Au] 35 (0,0)) (by(with_reducible repeat(first|refine qp ?_ _|refine qu ?_|refine qo ?_ _));exact Ab.out) hb);have AH:=qb.mk (qB (by repeat(first|(with_reducible first|exact HB.out|apply qd|apply qa|apply qc|refine qh ?_ Ad.out|refine qh ?_ Ae.out)|exact HB.out)) hb);clear Aa;clear Ab;clear HB;have Ak:=Ao;have Am:=Ap;have Aa:=Aq;have Ab:=AE;have HB:=AH;clear Ao Ap Aq AE AH
         (try clear hb)
         (try clear hb2)
         (try clear hk)
         (try clear hi)
         (try clear ho0)
         (try clear ho1)
         obtain⟨Ao68,co68,eo68⟩:=Kd.zn Ak.out
         (first|subst eo68|(injection eo68 with f1_ f2_ f3_;have f4_:=f1_.symm;have f5_:=f3_.symm;clear f1_ f2_ f3_;subst f4_;subst f5_))
         obtain⟨Ao69,co69,eo69⟩:=Kd.zn Am.out
         (first|subst eo69|(injection eo69 with f1_ f2_ f3_;have f4_:=f1_.symm;have f5_:=f3_.symm;clear f1_ f2_ f3_;subst f4_;subst f5_))
         refine hK.out _ _ ⟨(qe Aa.out 0).trans rfl,(qe Aa.out 1).trans rfl,(qe Aa.out 2).trans rfl,(qe Ab.out 0).trans rfl,(qe Ab.out 1).trans rfl,(qe Ab.out 2).trans rfl⟩ (fun hHeld=>?_);clear hK K;refine zz (a':=?_) ?_ ?_;rotate_left
         ·show Act.put _ (some 32) _=_
          simp only [Act.put,qSa,qSb,qSc,qm,qq]
          rfl
         refine zP (i:=17) (N:=some 33) #[true,true,true,true,true,true,true,true,true,true,true,true,true,true,true,true,true,true,false,false,false,false,false,false,false,false,false,false,false] rfl rfl (zm HT_.out (by kernel_rfl)) (by decide) (fun K hK=>?_);refine zy Tryd.func40 (by kernel_rfl) rfl #[.agg #[.int .i64 a0_0,.slice Ag l0_1.length Ah,.slice Ai l0_2.length Aj],.agg #[.int .i64 AY,.slice Ao68 AZ.length co68,.slice Ao69 Ba.length co69]] (by rfl) rfl rfl (by(try simp only [List.map_toArray,List.map_cons,List.map_nil]);first|done|rfl|(simp only [List.length_drop,List.length_take];rfl)) ?_
         with_reducible refine(zg.calls kj20 a0_0 _ _ l0_1 _ _ l0_2 AY _ _ AZ _ _ Ba false _ ?side1 ?side2 ?side3 ?side4 ?side5 ?side6 ?side7 ?side8 A32.out).mono ?_
         (case side1=>repeat(first|exact(Kd.vk HR0_1.out HB.out)|(with_reducible refine Kd.qS ?_ _)|(with_reducible refine Kd.qU ?_ _)|(with_reducible refine Kd.vq ?_)))
         (case side2=>exact Av.out)
         (case side3=>repeat(first|exact(Kd.vk HR0_2.out HB.out)|(with_reducible refine Kd.qS ?_ _)|(with_reducible refine Kd.qU ?_ _)|(with_reducible refine Kd.vq ?_)))
         (case side4=>exact Aw.out)
         (case side5=>repeat(first|exact(Kd.vQ Ak.out).2.2|(with_reducible refine Kd.qS ?_ _)|(with_reducible refine Kd.qU ?_ _)|(with_reducible refine Kd.vq ?_)))
         (case side6=>exact(Kd.vQ Ak.out).2.1)
         (case side7=>repeat(first|exact(Kd.vQ Am.out).2.2|(with_reducible refine Kd.qS ?_ _)|(with_reducible refine Kd.qU ?_ _)|(with_reducible refine Kd.vq ?_)))
         (case side8=>exact(Kd.vQ Am.out).2.1)
         rintro e w70 ⟨rfl,hb⟩;refine⟨_,rfl,?_⟩;have Ao:=qb.mk (Kd.zh (by(with_reducible repeat(first|apply Kd.vB|apply Kd.vA|apply Kd.vK));exact Ak.out) hb);have Ap:=qb.mk (Kd.zh (by(with_reducible repeat(first|apply Kd.vB|apply Kd.vA|apply Kd.vK));exact Am.out) hb);have Aq:=qb.mk (qJ (g:=Ac) (o:=.cells #[.int .i64 a0_0,.slice Ag l0_1.length Ah,.slice Ai l0_2.length Aj] 35 (0,0)) (by(with_reducible repeat(first|refine qp ?_ _|refine qu ?_|refine qo ?_ _));exact Aa.out) hb);have AE:=qb.mk (qJ (g:=Af) (o:=.cells #[.int .i64 a1_0,.slice Ar l1_1.length As,.slice At l1_2.length Au] 35 (0,0)) (by(with_reducible repeat(first|refine qp ?_ _|refine qu ?_|refine qo ?_ _));exact Ab.out) hb);have AH:=qb.mk (qB (by repeat(first|(with_reducible first|exact HB.out|apply qd|apply qa|apply qc|refine qh ?_ Ad.out|refine qh ?_ Ae.out)|exact HB.out)) hb);clear Ak;clear Am;clear Aa;clear Ab;clear HB;have Ak:=Ao;have Am:=Ap;have Aa:=Aq;have Ab:=AE;have HB:=AH;clear Ao Ap Aq AE AH
         (try clear hb)
         (try clear hb2)
         (try clear hk)
         (try clear hi)
         refine hK.out _ _ ⟨(qe Aa.out 0).trans rfl,(qe Aa.out 1).trans rfl,(qe Aa.out 2).trans rfl,(qe Ab.out 0).trans rfl,(qe Ab.out 1).trans rfl,(qe Ab.out 2).trans rfl⟩ (fun hHeld=>?_);clear hK K;refine zz (a':=?_) ?_ ?_;rotate_left
         ·show Act.put _ (some 33) _=_
          simp only [Act.put,qSa,qSb,qSc,qm,qq]
          rfl
         refine qw (i:=18) (N:=some 34) (v:=?_) (a':=?_) #[true,true,true,true,true,true,true,true,true,true,true,true,true,true,true,true,true,true,true,false,false,false,false,false,false,false,false,false,false] rfl rfl (qn HT_.out (by kernel_rfl)) (fun _ _ _ h=>h) (Or.inl ⟨by rfl,?_⟩) ?_ ?_;rotate_left
         ·intro w'
          go_simp
          with_reducible rfl
         rotate_left
         ·simp only [Act.put,qSa,qSb,qSc,qm,qq]
          rfl
         refine qw (i:=19) (N:=some 35) (v:=?_) (a':=?_) #[true,true,true,true,true,true,true,true,true,true,true,true,true,true,true,true,true,true,true,true,false,false,false,false,false,false,false,false,false] rfl rfl (qn HT_.out (by kernel_rfl)) (fun _ _ _ h=>h) (Or.inl ⟨by rfl,?_⟩) ?_ ?_;rotate_left
         ·intro w'
          go_simp
          with_reducible rfl
         rotate_left
         ·simp only [Act.put,qSa,qSb,qSc,qm,qq]
          rfl
         refine qw (i:=20) (N:=some 36) (v:=undef) (a':=?_) #[true,true,true,true,true,true,true,true,true,true,true,true,true,true,true,true,true,true,true,true,true,false,false,false,false,false,false,false,false] rfl rfl (qn HT_.out (by kernel_rfl)) (fun _ _ _ h=>h) (Or.inr ⟨by rfl,rfl⟩) ?_ ?_;rotate_left
         ·simp only [Act.put,qSa,qSb,qSc,qm,qq]
          rfl
         refine qw (i:=21) (N:=some 37) (v:=undef) (a':=?_) #[true,true,true,true,true,true,true,true,true,true,true,true,true,true,true,true,true,true,true,true,true,true,false,false,false,false,false,false,false] rfl rfl (qn HT_.out (by kernel_rfl)) (fun _ _ _ h=>h) (Or.inr ⟨by rfl,rfl⟩) ?_ ?_;rotate_left
         ·simp only [Act.put,qSa,qSb,qSc,qm,qq]
          rfl
         refine qw (i:=22) (N:=some 38) (v:=undef) (a':=?_) #[true,true,true,true,true,true,true,true,true,true,true,true,true,true,true,true,true,true,true,true,true,true,true,false,false,false,false,false,false] rfl rfl (qn HT_.out (by kernel_rfl)) (fun _ _ _ h=>h) (Or.inr ⟨by rfl,rfl⟩) ?_ ?_;rotate_left
         ·simp only [Act.put,qSa,qSb,qSc,qm,qq]
          rfl
         refine qw (i:=23) (N:=some 39) (v:=undef) (a':=?_) #[true,true,true,true,true,true,true,true,true,true,true,true,true,true,true,true,true,true,true,true,true,true,true,true,false,false,false,false,false] rfl rfl (qn HT_.out (by kernel_rfl)) (fun _ _ _ h=>h) (Or.inr ⟨by rfl,rfl⟩) ?_ ?_;rotate_left
         ·simp only [Act.put,qSa,qSb,qSc,qm,qq]
          rfl
         refine qw (i:=24) (N:=some 40) (v:=?_) (a':=?_) #[true,true,true,true,true,true,true,true,true,true,true,true,true,true,true,true,true,true,true,true,true,true,true,true,true,false,false,false,false] rfl rfl (qn HT_.out (by kernel_rfl)) (fun _ _ _ h=>h) (Or.inl ⟨by rfl,?_⟩) ?_ ?_;rotate_left
         ·intro w'
          go_simp
          with_reducible rfl
         rotate_left
         ·simp only [Act.put,qSa,qSb,qSc,qm,qq]
          rfl
         refine qw (i:=25) (N:=some 41) (v:=?_) (a':=?_) #[true,true,true,true,true,true,true,true,true,true,true,true,true,true,true,true,true,true,true,true,true,true,true,true,true,true,false,false,false] rfl rfl (qn HT_.out (by kernel_rfl)) (fun _ _ _ h=>h) (Or.inl ⟨by rfl,?_⟩) ?_ ?_;rotate_left
         ·intro w'
          go_simp
          with_reducible rfl
         rotate_left
         ·simp only [Act.put,qSa,qSb,qSc,qm,qq]
          rfl
         refine qw (i:=26) (N:=some 42) (v:=undef) (a':=?_) #[true,true,true,true,true,true,true,true,true,true,true,true,true,true,true,true,true,true,true,true,true,true,true,true,true,true,true,false,false] rfl rfl (qn HT_.out (by kernel_rfl)) (fun _ _ _ h=>h) (Or.inr ⟨by rfl,rfl⟩) ?_ ?_;rotate_left
         ·simp only [Act.put,qSa,qSb,qSc,qm,qq]
          rfl
         refine qw (i:=27) (N:=some 43) (v:=?_) (a':=?_) #[true,true,true,true,true,true,true,true,true,true,true,true,true,true,true,true,true,true,true,true,true,true,true,true,true,true,true,true,false] rfl rfl (qn HT_.out (by kernel_rfl)) (fun _ _ _ h=>h) (Or.inl ⟨by rfl,?_⟩) ?_ ?_;rotate_left
         ·intro w'
          go_simp
          with_reducible rfl
         rotate_left
         ·simp only [Act.put,qSa,qSb,qSc,qm,qq]
          rfl
         refine qw (i:=28) (N:=some 4) (v:=?_) (a':=?_) #[true,true,true,true,true,true,true,true,true,true,true,true,true,true,true,true,true,true,true,true,true,true,true,true,true,true,true,true,true] rfl rfl (qn HT_.out (by kernel_rfl)) (fun _ _ _ h=>h) (Or.inl ⟨by rfl,?_⟩) ?_ ?_;rotate_left
         ·intro w'
          go_simp
          with_reducible rfl
         rotate_left
         ·simp only [Act.put,qSa,qSb,qSc,qm,qq]
          rfl
         refine jn (zK HT_.out (by kernel_rfl)) ?_;try go_wp2
         go_ret
         exact⟨by first|rfl|(simp [qK,qL] <;> rfl)|(simp [*,qK,qL] <;> rfl),by repeat(first|(with_reducible first|exact HB.out|apply qd|apply qa|apply qc|refine qh ?_ Ad.out|refine qh ?_ Ae.out)|exact HB.out)⟩
       ·rw [if_neg Bu] at H
        have c30b0 : (AF == AD)=false:=by simpa using Bu
        (try(have c30b1 : decide (AF=AD)=false:=by simpa using Bu))
        (try(have c30b2 : (AF == AD)=false:=by simpa using Bu))
        (try(have c30b3 : ¬ (AF=AD):=by simpa using Bu))
        clear Bu;obtain rfl:=Option.some.inj H;try go_wp2
        have Ao:=qb.mk (qu Aa.out);have Ap:=qb.mk (qu Ab.out);have Aq:=qb.mk (qc HB.out);clear Aa;clear Ab;clear HB;have Aa:=Ao;have Ab:=Ap;have HB:=Aq;clear Ao Ap Aq;refine zS (n:=29) (S:=fun w'=>w'.cell? ⟨Ac,0,none⟩=some (.int .i64 a0_0)∧w'.cell? ⟨Ac,1,none⟩=some (.slice Ag l0_1.length Ah)∧w'.cell? ⟨Ac,2,none⟩=some (.slice Ai l0_2.length Aj)∧w'.cell? ⟨Af,0,none⟩=some (.int .i64 a1_0)∧w'.cell? ⟨Af,1,none⟩=some (.slice Ar l1_1.length As)∧w'.cell? ⟨Af,2,none⟩=some (.slice At l1_2.length Au)) (ds:=[]) #[false,false,false,false,false,false,false,false,false,false,false,false,false,false,false,false,false,false,false,false,false,false,false,false,false,false,false,false,false] (by kernel_rfl) rfl rfl ⟨(qe Aa.out 0).trans rfl,(qe Aa.out 1).trans rfl,(qe Aa.out 2).trans rfl,(qe Ab.out 0).trans rfl,(qe Ab.out 1).trans rfl,(qe Ab.out 2).trans rfl⟩ (fun hHeld=>?_);refine zu qt.tab6 qt.bits6 (fun HT_ HW_=>?_)
        generalize wc.drew=w71 at Aa Ab HB hHeld ⊢
        refine qw (i:=2) (N:=some 18) (v:=?_) (a':=?_) #[false,false,true,false,false,false,false,false,false,false,false,false,false,false,false,false,false,false,false,false,false,false,false,false,false,false,false,false,false] rfl rfl (qn HT_.out (by kernel_rfl)) (fun _ _ _ h=>h) (Or.inl ⟨by rfl,?_⟩) ?_ ?_;rotate_left
        ·intro w'
         go_simp
         with_reducible rfl
        rotate_left
        ·simp only [Act.put,qSa,qSb,qSc,qm,qq]
         rfl
        refine vZ (i:=0) (N:=some 16) (v:=?_) (a':=?_) #[true,false,true,false,false,false,false,false,false,false,false,false,false,false,false,false,false,false,false,false,false,false,false,false,false,false,false,false,false] rfl rfl (vu HT_.out HW_.out (by kernel_rfl)) (fun _ _ _ h=>h) (Or.inl ⟨by rfl,?_⟩) hHeld ?_ ?_;rotate_left
        ·rintro w' ⟨s0,s1,s2,s3,s4,s5⟩
         go_simp
         with_reducible rfl
        rotate_left
        ·simp only [Act.put,qSa,qSb,qSc,qm,qq]
         rfl
        refine zP (i:=1) (N:=some 17) #[true,true,true,false,false,false,false,false,false,false,false,false,false,false,false,false,false,false,false,false,false,false,false,false,false,false,false,false,false] rfl rfl (zm HT_.out (by kernel_rfl)) (by decide) (fun K hK=>?_);refine zy Tryd.func39 (by kernel_rfl) rfl #[.agg #[.int .i64 a0_0,.slice Ag l0_1.length Ah,.slice Ai l0_2.length Aj]] (by rfl) rfl rfl (by(try simp only [List.map_toArray,List.map_cons,List.map_nil]);first|done|rfl|(simp only [List.length_drop,List.length_take];rfl)) ?_
        with_reducible refine(vz.calls kj20 a0_0 _ _ l0_1 _ _ l0_2 AR _ ?side1 ?side2 ?side3 ?side4 A26.out (HT.out.go (by repeat(first|(with_reducible first|exact HB.out|apply qd|apply qa|apply qc|refine qh ?_ Ad.out|refine qh ?_ Ae.out)|exact HB.out)))).mono ?_
        (case side1=>repeat(first|exact(Kd.vk HR0_1.out HB.out)|(with_reducible refine Kd.qS ?_ _)|(with_reducible refine Kd.qU ?_ _)|(with_reducible refine Kd.vq ?_)))
        (case side2=>exact Av.out)
        (case side3=>repeat(first|exact(Kd.vk HR0_2.out HB.out)|(with_reducible refine Kd.qS ?_ _)|(with_reducible refine Kd.qU ?_ _)|(with_reducible refine Kd.vq ?_)))
        (case side4=>exact Aw.out)
        rintro e w72 ⟨rfl,hb⟩;refine⟨_,rfl,?_⟩;have Ao:=qb.mk (qJ (g:=Ac) (o:=.cells #[.int .i64 a0_0,.slice Ag l0_1.length Ah,.slice Ai l0_2.length Aj] 35 (0,0)) (by(with_reducible repeat(first|refine qp ?_ _|refine qu ?_|refine qo ?_ _));exact Aa.out) hb);have Ap:=qb.mk (qJ (g:=Af) (o:=.cells #[.int .i64 a1_0,.slice Ar l1_1.length As,.slice At l1_2.length Au] 35 (0,0)) (by(with_reducible repeat(first|refine qp ?_ _|refine qu ?_|refine qo ?_ _));exact Ab.out) hb);have Aq:=qb.mk (qB (by repeat(first|(with_reducible first|exact HB.out|apply qd|apply qa|apply qc|refine qh ?_ Ad.out|refine qh ?_ Ae.out)|exact HB.out)) hb);clear Aa;clear Ab;clear HB;have Aa:=Ao;have Ab:=Ap;have HB:=Aq;clear Ao Ap Aq
        (try clear hb)
        (try clear hb2)
        (try clear hk)
        (try clear hi)
        refine hK.out _ _ ⟨(qe Aa.out 0).trans rfl,(qe Aa.out 1).trans rfl,(qe Aa.out 2).trans rfl,(qe Ab.out 0).trans rfl,(qe Ab.out 1).trans rfl,(qe Ab.out 2).trans rfl⟩ (fun hHeld=>?_);clear hK K;refine zz (a':=?_) ?_ ?_;rotate_left
        ·show Act.put _ (some 17) _=_
         simp only [Act.put,qSa,qSb,qSc,qm,qq]
         rfl
        refine qw (i:=3) (N:=some 19) (v:=?_) (a':=?_) #[true,true,true,true,false,false,false,false,false,false,false,false,false,false,false,false,false,false,false,false,false,false,false,false,false,false,false,false,false] rfl rfl (qn HT_.out (by kernel_rfl)) (fun _ _ _ h=>h) (Or.inl ⟨by rfl,?_⟩) ?_ ?_;rotate_left
        ·intro w'
         go_simp
         with_reducible rfl
        rotate_left
        ·simp only [Act.put,qSa,qSb,qSc,qm,qq]
         rfl
        refine qw (i:=4) (N:=some 20) (v:=?_) (a':=?_) #[true,true,true,true,true,false,false,false,false,false,false,false,false,false,false,false,false,false,false,false,false,false,false,false,false,false,false,false,false] rfl rfl (qn HT_.out (by kernel_rfl)) (fun _ _ _ h=>h) (Or.inl ⟨by rfl,?_⟩) ?_ ?_;rotate_left
        ·intro w'
         go_simp
         with_reducible rfl
        rotate_left
        ·simp only [Act.put,qSa,qSb,qSc,qm,qq]
         rfl
        refine vZ (i:=5) (N:=some 21) (v:=?_) (a':=?_) #[true,true,true,true,true,true,false,false,false,false,false,false,false,false,false,false,false,false,false,false,false,false,false,false,false,false,false,false,false] rfl rfl (vu HT_.out HW_.out (by kernel_rfl)) (fun _ _ _ h=>h) (Or.inl ⟨by rfl,?_⟩) hHeld ?_ ?_;rotate_left
        ·rintro w' ⟨s0,s1,s2,s3,s4,s5⟩
         go_simp
         with_reducible rfl
        rotate_left
        ·simp only [Act.put,qSa,qSb,qSc,qm,qq]
         rfl
        refine vZ (i:=6) (N:=some 22) (v:=?_) (a':=?_) #[true,true,true,true,true,true,true,false,false,false,false,false,false,false,false,false,false,false,false,false,false,false,false,false,false,false,false,false,false] rfl rfl (vu HT_.out HW_.out (by kernel_rfl)) (fun _ _ _ h=>h) (Or.inl ⟨by rfl,?_⟩) hHeld ?_ ?_;rotate_left
        ·rintro w' ⟨s0,s1,s2,s3,s4,s5⟩
         go_simp
         with_reducible rfl
        rotate_left
        ·simp only [Act.put,qSa,qSb,qSc,qm,qq]
         rfl
        refine vZ (i:=8) (N:=some 24) (v:=?_) (a':=?_) #[true,true,true,true,true,true,true,false,true,false,false,false,false,false,false,false,false,false,false,false,false,false,false,false,false,false,false,false,false] rfl rfl (vu HT_.out HW_.out (by kernel_rfl)) (fun _ _ _ h=>h) (Or.inl ⟨by rfl,?_⟩) hHeld ?_ ?_;rotate_left
        ·rintro w' ⟨s0,s1,s2,s3,s4,s5⟩
         go_simp
         with_reducible rfl
        rotate_left
        ·simp only [Act.put,qSa,qSb,qSc,qm,qq]
         rfl
        refine vZ (i:=9) (N:=some 25) (v:=?_) (a':=?_) #[true,true,true,true,true,true,true,false,true,true,false,false,false,false,false,false,false,false,false,false,false,false,false,false,false,false,false,false,false] rfl rfl (vu HT_.out HW_.out (by kernel_rfl)) (fun _ _ _ h=>h) (Or.inl ⟨by rfl,?_⟩) hHeld ?_ ?_;rotate_left
        ·rintro w' ⟨s0,s1,s2,s3,s4,s5⟩
         go_simp
         with_reducible rfl
        rotate_left
        ·simp only [Act.put,qSa,qSb,qSc,qm,qq]
         rfl
        refine zP (i:=7) (N:=some 23) #[true,true,true,true,true,true,true,true,true,true,false,false,false,false,false,false,false,false,false,false,false,false,false,false,false,false,false,false,false] rfl rfl (zm HT_.out (by kernel_rfl)) (by decide) (fun K hK=>?_);refine zy Tryd.func40 (by kernel_rfl) rfl #[.agg #[.int .i64 a0_0,.slice Ag l0_1.length Ah,.slice Ai l0_2.length Aj],.agg #[.int .i64 a1_0,.slice Ar l1_1.length As,.slice At l1_2.length Au]] (by rfl) rfl rfl (by(try simp only [List.map_toArray,List.map_cons,List.map_nil]);first|done|rfl|(simp only [List.length_drop,List.length_take];rfl)) ?_
        with_reducible refine(zg.calls kj20 a0_0 _ _ l0_1 _ _ l0_2 a1_0 _ _ l1_1 _ _ l1_2 AF _ ?side1 ?side2 ?side3 ?side4 ?side5 ?side6 ?side7 ?side8 A28.out).mono ?_
        (case side1=>repeat(first|exact(Kd.vk HR0_1.out HB.out)|(with_reducible refine Kd.qS ?_ _)|(with_reducible refine Kd.qU ?_ _)|(with_reducible refine Kd.vq ?_)))
        (case side2=>exact Av.out)
        (case side3=>repeat(first|exact(Kd.vk HR0_2.out HB.out)|(with_reducible refine Kd.qS ?_ _)|(with_reducible refine Kd.qU ?_ _)|(with_reducible refine Kd.vq ?_)))
        (case side4=>exact Aw.out)
        (case side5=>repeat(first|exact(Kd.vk HR1_1.out HB.out)|(with_reducible refine Kd.qS ?_ _)|(with_reducible refine Kd.qU ?_ _)|(with_reducible refine Kd.vq ?_)))
        (case side6=>exact AM.out)
        (case side7=>repeat(first|exact(Kd.vk HR1_2.out HB.out)|(with_reducible refine Kd.qS ?_ _)|(with_reducible refine Kd.qU ?_ _)|(with_reducible refine Kd.vq ?_)))
        (case side8=>exact AP.out)
        rintro e w73 ⟨rfl,hb⟩;refine⟨_,rfl,?_⟩;have Ao:=qb.mk (qJ (g:=Ac) (o:=.cells #[.int .i64 a0_0,.slice Ag l0_1.length Ah,.slice Ai l0_2.length Aj] 35 (0,0)) (by(with_reducible repeat(first|refine qp ?_ _|refine qu ?_|refine qo ?_ _));exact Aa.out) hb);have Ap:=qb.mk (qJ (g:=Af) (o:=.cells #[.int .i64 a1_0,.slice Ar l1_1.length As,.slice At l1_2.length Au] 35 (0,0)) (by(with_reducible repeat(first|refine qp ?_ _|refine qu ?_|refine qo ?_ _));exact Ab.out) hb);have Aq:=qb.mk (qB (by repeat(first|(with_reducible first|exact HB.out|apply qd|apply qa|apply qc|refine qh ?_ Ad.out|refine qh ?_ Ae.out)|exact HB.out)) hb);clear Aa;clear Ab;clear HB;have Aa:=Ao;have Ab:=Ap;have HB:=Aq;clear Ao Ap Aq
        (try clear hb)
        (try clear hb2)
        (try clear hk)
        (try clear hi)
        refine hK.out _ _ ⟨(qe Aa.out 0).trans rfl,(qe Aa.out 1).trans rfl,(qe Aa.out 2).trans rfl,(qe Ab.out 0).trans rfl,(qe Ab.out 1).trans rfl,(qe Ab.out 2).trans rfl⟩ (fun hHeld=>?_);clear hK K;refine zz (a':=?_) ?_ ?_;rotate_left
        ·show Act.put _ (some 23) _=_
         simp only [Act.put,qSa,qSb,qSc,qm,qq]
         rfl
        refine zP (i:=10) (N:=some 26) #[true,true,true,true,true,true,true,true,true,true,true,false,false,false,false,false,false,false,false,false,false,false,false,false,false,false,false,false,false] rfl rfl (zm HT_.out (by kernel_rfl)) (by decide) (fun K hK=>?_);refine zy Tryd.func36 (by kernel_rfl) rfl #[.agg #[.int .i64 a0_0,.slice Ag l0_1.length Ah,.slice Ai l0_2.length Aj],.agg #[.int .i64 a1_0,.slice Ar l1_1.length As,.slice At l1_2.length Au]] (by rfl) rfl rfl (by(try simp only [List.map_toArray,List.map_cons,List.map_nil]);first|done|rfl|(simp only [List.length_drop,List.length_take];rfl)) ?_
        with_reducible refine(qX.calls kj20 a0_0 _ _ l0_1 _ _ l0_2 a1_0 _ _ l1_1 _ _ l1_2 AD _ ?side1 ?side2 ?side3 ?side4 ?side5 ?side6 ?side7 ?side8 A29.out).mono ?_
        (case side1=>repeat(first|exact(Kd.vk HR0_1.out HB.out)|(with_reducible refine Kd.qS ?_ _)|(with_reducible refine Kd.qU ?_ _)|(with_reducible refine Kd.vq ?_)))
        (case side2=>exact Av.out)
        (case side3=>repeat(first|exact(Kd.vk HR0_2.out HB.out)|(with_reducible refine Kd.qS ?_ _)|(with_reducible refine Kd.qU ?_ _)|(with_reducible refine Kd.vq ?_)))
        (case side4=>exact Aw.out)
        (case side5=>repeat(first|exact(Kd.vk HR1_1.out HB.out)|(with_reducible refine Kd.qS ?_ _)|(with_reducible refine Kd.qU ?_ _)|(with_reducible refine Kd.vq ?_)))
        (case side6=>exact AM.out)
        (case side7=>repeat(first|exact(Kd.vk HR1_2.out HB.out)|(with_reducible refine Kd.qS ?_ _)|(with_reducible refine Kd.qU ?_ _)|(with_reducible refine Kd.vq ?_)))
        (case side8=>exact AP.out)
        rintro e w74 ⟨rfl,hb⟩;refine⟨_,rfl,?_⟩;have Ao:=qb.mk (qJ (g:=Ac) (o:=.cells #[.int .i64 a0_0,.slice Ag l0_1.length Ah,.slice Ai l0_2.length Aj] 35 (0,0)) (by(with_reducible repeat(first|refine qp ?_ _|refine qu ?_|refine qo ?_ _));exact Aa.out) hb);have Ap:=qb.mk (qJ (g:=Af) (o:=.cells #[.int .i64 a1_0,.slice Ar l1_1.length As,.slice At l1_2.length Au] 35 (0,0)) (by(with_reducible repeat(first|refine qp ?_ _|refine qu ?_|refine qo ?_ _));exact Ab.out) hb);have Aq:=qb.mk (qB (by repeat(first|(with_reducible first|exact HB.out|apply qd|apply qa|apply qc|refine qh ?_ Ad.out|refine qh ?_ Ae.out)|exact HB.out)) hb);clear Aa;clear Ab;clear HB;have Aa:=Ao;have Ab:=Ap;have HB:=Aq;clear Ao Ap Aq
        (try clear hb)
        (try clear hb2)
        (try clear hk)
        (try clear hi)
        refine hK.out _ _ ⟨(qe Aa.out 0).trans rfl,(qe Aa.out 1).trans rfl,(qe Aa.out 2).trans rfl,(qe Ab.out 0).trans rfl,(qe Ab.out 1).trans rfl,(qe Ab.out 2).trans rfl⟩ (fun hHeld=>?_);clear hK K;refine zz (a':=?_) ?_ ?_;rotate_left
        ·show Act.put _ (some 26) _=_
         simp only [Act.put,qSa,qSb,qSc,qm,qq]
         rfl
        refine qw (i:=11) (N:=some 27) (v:=?_) (a':=?_) #[true,true,true,true,true,true,true,true,true,true,true,true,false,false,false,false,false,false,false,false,false,false,false,false,false,false,false,false,false] rfl rfl (qn HT_.out (by kernel_rfl)) (fun _ _ _ h=>h) (Or.inl ⟨by rfl,?_⟩) ?_ ?_;rotate_left
        ·intro w'
         go_simp
         with_reducible rfl
        rotate_left
        ·simp only [Act.put,qSa,qSb,qSc,qm,qq]
         rfl
        refine qw (i:=12) (N:=some 28) (v:=?_) (a':=?_) #[true,true,true,true,true,true,true,true,true,true,true,true,true,false,false,false,false,false,false,false,false,false,false,false,false,false,false,false,false] rfl rfl (qn HT_.out (by kernel_rfl)) (fun _ _ _ h=>h) (Or.inl ⟨by rfl,?_⟩) ?_ ?_;rotate_left
        ·intro w'
         go_simp
         with_reducible rfl
        rotate_left
        ·simp only [Act.put,qSa,qSb,qSc,qm,qq]
         rfl
        refine qw (i:=13) (N:=some 29) (v:=?_) (a':=?_) #[true,true,true,true,true,true,true,true,true,true,true,true,true,true,false,false,false,false,false,false,false,false,false,false,false,false,false,false,false] rfl rfl (qn HT_.out (by kernel_rfl)) (fun _ _ _ h=>h) (Or.inl ⟨by rfl,?_⟩) ?_ ?_;rotate_left
        ·intro w'
         go_simp
         with_reducible rfl
        rotate_left
        ·simp only [Act.put,qSa,qSb,qSc,qm,qq]
         rfl
        refine qw (i:=14) (N:=some 30) (v:=undef) (a':=?_) #[true,true,true,true,true,true,true,true,true,true,true,true,true,true,true,false,false,false,false,false,false,false,false,false,false,false,false,false,false] rfl rfl (qn HT_.out (by kernel_rfl)) (fun _ _ _ h=>h) (Or.inr ⟨by rfl,rfl⟩) ?_ ?_;rotate_left
        ·simp only [Act.put,qSa,qSb,qSc,qm,qq]
         rfl
        refine qw (i:=15) (N:=some 31) (v:=undef) (a':=?_) #[true,true,true,true,true,true,true,true,true,true,true,true,true,true,true,true,false,false,false,false,false,false,false,false,false,false,false,false,false] rfl rfl (qn HT_.out (by kernel_rfl)) (fun _ _ _ h=>h) (Or.inr ⟨by rfl,rfl⟩) ?_ ?_;rotate_left
        ·simp only [Act.put,qSa,qSb,qSc,qm,qq]
         rfl
        refine qw (i:=16) (N:=some 32) (v:=undef) (a':=?_) #[true,true,true,true,true,true,true,true,true,true,true,true,true,true,true,true,true,false,false,false,false,false,false,false,false,false,false,false,false] rfl rfl (qn HT_.out (by kernel_rfl)) (fun _ _ _ h=>h) (Or.inr ⟨by rfl,rfl⟩) ?_ ?_;rotate_left
        ·simp only [Act.put,qSa,qSb,qSc,qm,qq]
         rfl
        refine qw (i:=17) (N:=some 33) (v:=undef) (a':=?_) #[true,true,true,true,true,true,true,true,true,true,true,true,true,true,true,true,true,true,false,false,false,false,false,false,false,false,false,false,false] rfl rfl (qn HT_.out (by kernel_rfl)) (fun _ _ _ h=>h) (Or.inr ⟨by rfl,rfl⟩) ?_ ?_;rotate_left
        ·simp only [Act.put,qSa,qSb,qSc,qm,qq]
         rfl
        refine qw (i:=18) (N:=some 34) (v:=?_) (a':=?_) #[true,true,true,true,true,true,true,true,true,true,true,true,true,true,true,true,true,true,true,false,false,false,false,false,false,false,false,false,false] rfl rfl (qn HT_.out (by kernel_rfl)) (fun _ _ _ h=>h) (Or.inl ⟨by rfl,?_⟩) ?_ ?_;rotate_left
        ·intro w'
         go_simp
         with_reducible rfl
        rotate_left
        ·simp only [Act.put,qSa,qSb,qSc,qm,qq]
         rfl
        refine qw (i:=19) (N:=some 35) (v:=?_) (a':=?_) #[true,true,true,true,true,true,true,true,true,true,true,true,true,true,true,true,true,true,true,true,false,false,false,false,false,false,false,false,false] rfl rfl (qn HT_.out (by kernel_rfl)) (fun _ _ _ h=>h) (Or.inl ⟨by rfl,?_⟩) ?_ ?_;rotate_left
        ·intro w'
         go_simp
         with_reducible rfl
        rotate_left
        ·simp only [Act.put,qSa,qSb,qSc,qm,qq]
         rfl
        refine qw (i:=20) (N:=some 36) (v:=undef) (a':=?_) #[true,true,true,true,true,true,true,true,true,true,true,true,true,true,true,true,true,true,true,true,true,false,false,false,false,false,false,false,false] rfl rfl (qn HT_.out (by kernel_rfl)) (fun _ _ _ h=>h) (Or.inr ⟨by rfl,rfl⟩) ?_ ?_;rotate_left
        ·simp only [Act.put,qSa,qSb,qSc,qm,qq]
         rfl
        refine qw (i:=21) (N:=some 37) (v:=undef) (a':=?_) #[true,true,true,true,true,true,true,true,true,true,true,true,true,true,true,true,true,true,true,true,true,true,false,false,false,false,false,false,false] rfl rfl (qn HT_.out (by kernel_rfl)) (fun _ _ _ h=>h) (Or.inr ⟨by rfl,rfl⟩) ?_ ?_;rotate_left
        ·simp only [Act.put,qSa,qSb,qSc,qm,qq]
         rfl
        refine qw (i:=22) (N:=some 38) (v:=undef) (a':=?_) #[true,true,true,true,true,true,true,true,true,true,true,true,true,true,true,true,true,true,true,true,true,true,true,false,false,false,false,false,false] rfl rfl (qn HT_.out (by kernel_rfl)) (fun _ _ _ h=>h) (Or.inr ⟨by rfl,rfl⟩) ?_ ?_;rotate_left
        ·simp only [Act.put,qSa,qSb,qSc,qm,qq]
         rfl
        refine qw (i:=23) (N:=some 39) (v:=undef) (a':=?_) #[true,true,true,true,true,true,true,true,true,true,true,true,true,true,true,true,true,true,true,true,true,true,true,true,false,false,false,false,false] rfl rfl (qn HT_.out (by kernel_rfl)) (fun _ _ _ h=>h) (Or.inr ⟨by rfl,rfl⟩) ?_ ?_;rotate_left
        ·simp only [Act.put,qSa,qSb,qSc,qm,qq]
         rfl
        refine qw (i:=24) (N:=some 40) (v:=?_) (a':=?_) #[true,true,true,true,true,true,true,true,true,true,true,true,true,true,true,true,true,true,true,true,true,true,true,true,true,false,false,false,false] rfl rfl (qn HT_.out (by kernel_rfl)) (fun _ _ _ h=>h) (Or.inl ⟨by rfl,?_⟩) ?_ ?_;rotate_left
        ·intro w'
         go_simp
         with_reducible rfl
        rotate_left
        ·simp only [Act.put,qSa,qSb,qSc,qm,qq]
         rfl
        refine qw (i:=25) (N:=some 41) (v:=?_) (a':=?_) #[true,true,true,true,true,true,true,true,true,true,true,true,true,true,true,true,true,true,true,true,true,true,true,true,true,true,false,false,false] rfl rfl (qn HT_.out (by kernel_rfl)) (fun _ _ _ h=>h) (Or.inl ⟨by rfl,?_⟩) ?_ ?_;rotate_left
        ·intro w'
         go_simp
         with_reducible rfl
        rotate_left
        ·simp only [Act.put,qSa,qSb,qSc,qm,qq]
         rfl
        refine qw (i:=26) (N:=some 42) (v:=undef) (a':=?_) #[true,true,true,true,true,true,true,true,true,true,true,true,true,true,true,true,true,true,true,true,true,true,true,true,true,true,true,false,false] rfl rfl (qn HT_.out (by kernel_rfl)) (fun _ _ _ h=>h) (Or.inr ⟨by rfl,rfl⟩) ?_ ?_;rotate_left
        ·simp only [Act.put,qSa,qSb,qSc,qm,qq]
         rfl
        refine qw (i:=27) (N:=some 43) (v:=?_) (a':=?_) #[true,true,true,true,true,true,true,true,true,true,true,true,true,true,true,true,true,true,true,true,true,true,true,true,true,true,true,true,false] rfl rfl (qn HT_.out (by kernel_rfl)) (fun _ _ _ h=>h) (Or.inl ⟨by rfl,?_⟩) ?_ ?_;rotate_left
        ·intro w'
         go_simp
         with_reducible rfl
        rotate_left
        ·simp only [Act.put,qSa,qSb,qSc,qm,qq]
         rfl
        refine qw (i:=28) (N:=some 4) (v:=?_) (a':=?_) #[true,true,true,true,true,true,true,true,true,true,true,true,true,true,true,true,true,true,true,true,true,true,true,true,true,true,true,true,true] rfl rfl (qn HT_.out (by kernel_rfl)) (fun _ _ _ h=>h) (Or.inl ⟨by rfl,?_⟩) ?_ ?_;rotate_left
        ·intro w'
         go_simp
         with_reducible rfl
        rotate_left
        ·simp only [Act.put,qSa,qSb,qSc,qm,qq]
         rfl
        refine jn (zK HT_.out (by kernel_rfl)) ?_;try go_wp2
        go_ret
        exact⟨by first|rfl|(simp [qK,qL] <;> rfl)|(simp [*,qK,qL] <;> rfl),by repeat(first|(with_reducible first|exact HB.out|apply qd|apply qa|apply qc|refine qh ?_ Ad.out|refine qh ?_ Ae.out)|exact HB.out)⟩
      ·rw [if_neg BA] at H
       have c27b0 : (AR == AQ)=false:=beq_eq_false_iff_ne.mpr BA;have c27b1 : (AR != AQ)=true:=bne_iff_ne.mpr BA;obtain rfl:=Option.some.inj H;try go_wp2
       have Ao:=qb.mk (qu Aa.out);have Ap:=qb.mk (qu Ab.out);have Aq:=qb.mk (qc HB.out);clear Aa;clear Ab;clear HB;have Aa:=Ao;have Ab:=Ap;have HB:=Aq;clear Ao Ap Aq;refine zS (n:=29) (S:=fun w'=>w'.cell? ⟨Ac,0,none⟩=some (.int .i64 a0_0)∧w'.cell? ⟨Ac,1,none⟩=some (.slice Ag l0_1.length Ah)∧w'.cell? ⟨Ac,2,none⟩=some (.slice Ai l0_2.length Aj)) (ds:=[]) #[false,false,false,false,false,false,false,false,false,false,false,false,false,false,false,false,false,false,false,false,false,false,false,false,false,false,false,false,false] (by kernel_rfl) rfl rfl ⟨(qe Aa.out 0).trans rfl,(qe Aa.out 1).trans rfl,(qe Aa.out 2).trans rfl⟩ (fun hHeld=>?_);refine zu qt.tab6 qt.bits6 (fun HT_ HW_=>?_)
       generalize wc.drew=w75 at Aa Ab HB hHeld ⊢
       refine qw (i:=2) (N:=some 18) (v:=?_) (a':=?_) #[false,false,true,false,false,false,false,false,false,false,false,false,false,false,false,false,false,false,false,false,false,false,false,false,false,false,false,false,false] rfl rfl (qn HT_.out (by kernel_rfl)) (fun _ _ _ h=>h) (Or.inl ⟨by rfl,?_⟩) ?_ ?_;rotate_left
       ·intro w'
        go_simp
        with_reducible rfl
       rotate_left
       ·simp only [Act.put,qSa,qSb,qSc,qm,qq]
        rfl
       refine vZ (i:=0) (N:=some 16) (v:=?_) (a':=?_) #[true,false,true,false,false,false,false,false,false,false,false,false,false,false,false,false,false,false,false,false,false,false,false,false,false,false,false,false,false] rfl rfl (vu HT_.out HW_.out (by kernel_rfl)) (fun _ _ _ h=>h) (Or.inl ⟨by rfl,?_⟩) hHeld ?_ ?_;rotate_left
       ·rintro w' ⟨s0,s1,s2⟩
        go_simp
        with_reducible rfl
       rotate_left
       ·simp only [Act.put,qSa,qSb,qSc,qm,qq]
        rfl
       refine zP (i:=1) (N:=some 17) #[true,true,true,false,false,false,false,false,false,false,false,false,false,false,false,false,false,false,false,false,false,false,false,false,false,false,false,false,false] rfl rfl (zm HT_.out (by kernel_rfl)) (by decide) (fun K hK=>?_);refine zy Tryd.func39 (by kernel_rfl) rfl #[.agg #[.int .i64 a0_0,.slice Ag l0_1.length Ah,.slice Ai l0_2.length Aj]] (by rfl) rfl rfl (by(try simp only [List.map_toArray,List.map_cons,List.map_nil]);first|done|rfl|(simp only [List.length_drop,List.length_take];rfl)) ?_
       with_reducible refine(vz.calls kj20 a0_0 _ _ l0_1 _ _ l0_2 AR _ ?side1 ?side2 ?side3 ?side4 A26.out (HT.out.go (by repeat(first|(with_reducible first|exact HB.out|apply qd|apply qa|apply qc|refine qh ?_ Ad.out|refine qh ?_ Ae.out)|exact HB.out)))).mono ?_
       (case side1=>repeat(first|exact(Kd.vk HR0_1.out HB.out)|(with_reducible refine Kd.qS ?_ _)|(with_reducible refine Kd.qU ?_ _)|(with_reducible refine Kd.vq ?_)))
       (case side2=>exact Av.out)
       (case side3=>repeat(first|exact(Kd.vk HR0_2.out HB.out)|(with_reducible refine Kd.qS ?_ _)|(with_reducible refine Kd.qU ?_ _)|(with_reducible refine Kd.vq ?_)))
       (case side4=>exact Aw.out)
       rintro e w76 ⟨rfl,hb⟩;refine⟨_,rfl,?_⟩;have Ao:=qb.mk (qJ (g:=Ac) (o:=.cells #[.int .i64 a0_0,.slice Ag l0_1.length Ah,.slice Ai l0_2.length Aj] 35 (0,0)) (by(with_reducible repeat(first|refine qp ?_ _|refine qu ?_|refine qo ?_ _));exact Aa.out) hb);have Ap:=qb.mk (qJ (g:=Af) (o:=.cells #[.int .i64 a1_0,.slice Ar l1_1.length As,.slice At l1_2.length Au] 35 (0,0)) (by(with_reducible repeat(first|refine qp ?_ _|refine qu ?_|refine qo ?_ _));exact Ab.out) hb);have Aq:=qb.mk (qB (by repeat(first|(with_reducible first|exact HB.out|apply qd|apply qa|apply qc|refine qh ?_ Ad.out|refine qh ?_ Ae.out)|exact HB.out)) hb);clear Aa;clear Ab;clear HB;have Aa:=Ao;have Ab:=Ap;have HB:=Aq;clear Ao Ap Aq
       (try clear hb)
       (try clear hb2)
       (try clear hk)
       (try clear hi)
       refine hK.out _ _ ⟨(qe Aa.out 0).trans rfl,(qe Aa.out 1).trans rfl,(qe Aa.out 2).trans rfl⟩ (fun hHeld=>?_);clear hK K;refine zz (a':=?_) ?_ ?_;rotate_left
       ·show Act.put _ (some 17) _=_
        simp only [Act.put,qSa,qSb,qSc,qm,qq]
        rfl
       refine qw (i:=3) (N:=some 19) (v:=?_) (a':=?_) #[true,true,true,true,false,false,false,false,false,false,false,false,false,false,false,false,false,false,false,false,false,false,false,false,false,false,false,false,false] rfl rfl (qn HT_.out (by kernel_rfl)) (fun _ _ _ h=>h) (Or.inl ⟨by rfl,?_⟩) ?_ ?_;rotate_left
       ·intro w'
        go_simp
        with_reducible rfl
       rotate_left
       ·simp only [Act.put,qSa,qSb,qSc,qm,qq]
        rfl
       refine qw (i:=4) (N:=some 20) (v:=?_) (a':=?_) #[true,true,true,true,true,false,false,false,false,false,false,false,false,false,false,false,false,false,false,false,false,false,false,false,false,false,false,false,false] rfl rfl (qn HT_.out (by kernel_rfl)) (fun _ _ _ h=>h) (Or.inl ⟨by rfl,?_⟩) ?_ ?_;rotate_left
       ·intro w'
        go_simp
        with_reducible rfl
       rotate_left
       ·simp only [Act.put,qSa,qSb,qSc,qm,qq]
        rfl
       refine qw (i:=5) (N:=some 21) (v:=undef) (a':=?_) #[true,true,true,true,true,true,false,false,false,false,false,false,false,false,false,false,false,false,false,false,false,false,false,false,false,false,false,false,false] rfl rfl (qn HT_.out (by kernel_rfl)) (fun _ _ _ h=>h) (Or.inr ⟨by rfl,rfl⟩) ?_ ?_;rotate_left
       ·simp only [Act.put,qSa,qSb,qSc,qm,qq]
        rfl
       refine qw (i:=6) (N:=some 22) (v:=undef) (a':=?_) #[true,true,true,true,true,true,true,false,false,false,false,false,false,false,false,false,false,false,false,false,false,false,false,false,false,false,false,false,false] rfl rfl (qn HT_.out (by kernel_rfl)) (fun _ _ _ h=>h) (Or.inr ⟨by rfl,rfl⟩) ?_ ?_;rotate_left
       ·simp only [Act.put,qSa,qSb,qSc,qm,qq]
        rfl
       refine qw (i:=7) (N:=some 23) (v:=undef) (a':=?_) #[true,true,true,true,true,true,true,true,false,false,false,false,false,false,false,false,false,false,false,false,false,false,false,false,false,false,false,false,false] rfl rfl (qn HT_.out (by kernel_rfl)) (fun _ _ _ h=>h) (Or.inr ⟨by rfl,rfl⟩) ?_ ?_;rotate_left
       ·simp only [Act.put,qSa,qSb,qSc,qm,qq]
        rfl
       refine qw (i:=8) (N:=some 24) (v:=undef) (a':=?_) #[true,true,true,true,true,true,true,true,true,false,false,false,false,false,false,false,false,false,false,false,false,false,false,false,false,false,false,false,false] rfl rfl (qn HT_.out (by kernel_rfl)) (fun _ _ _ h=>h) (Or.inr ⟨by rfl,rfl⟩) ?_ ?_;rotate_left
       ·simp only [Act.put,qSa,qSb,qSc,qm,qq]
        rfl
       refine qw (i:=9) (N:=some 25) (v:=undef) (a':=?_) #[true,true,true,true,true,true,true,true,true,true,false,false,false,false,false,false,false,false,false,false,false,false,false,false,false,false,false,false,false] rfl rfl (qn HT_.out (by kernel_rfl)) (fun _ _ _ h=>h) (Or.inr ⟨by rfl,rfl⟩) ?_ ?_;rotate_left
       ·simp only [Act.put,qSa,qSb,qSc,qm,qq]
        rfl
       refine qw (i:=10) (N:=some 26) (v:=undef) (a':=?_) #[true,true,true,true,true,true,true,true,true,true,true,false,false,false,false,false,false,false,false,false,false,false,false,false,false,false,false,false,false] rfl rfl (qn HT_.out (by kernel_rfl)) (fun _ _ _ h=>h) (Or.inr ⟨by rfl,rfl⟩) ?_ ?_;rotate_left
       ·simp only [Act.put,qSa,qSb,qSc,qm,qq]
        rfl
       refine qw (i:=11) (N:=some 27) (v:=undef) (a':=?_) #[true,true,true,true,true,true,true,true,true,true,true,true,false,false,false,false,false,false,false,false,false,false,false,false,false,false,false,false,false] rfl rfl (qn HT_.out (by kernel_rfl)) (fun _ _ _ h=>h) (Or.inr ⟨by rfl,rfl⟩) ?_ ?_;rotate_left
       ·simp only [Act.put,qSa,qSb,qSc,qm,qq]
        rfl
       refine qw (i:=12) (N:=some 28) (v:=?_) (a':=?_) #[true,true,true,true,true,true,true,true,true,true,true,true,true,false,false,false,false,false,false,false,false,false,false,false,false,false,false,false,false] rfl rfl (qn HT_.out (by kernel_rfl)) (fun _ _ _ h=>h) (Or.inl ⟨by rfl,?_⟩) ?_ ?_;rotate_left
       ·intro w'
        go_simp
        with_reducible rfl
       rotate_left
       ·simp only [Act.put,qSa,qSb,qSc,qm,qq]
        rfl
       refine qw (i:=13) (N:=some 29) (v:=?_) (a':=?_) #[true,true,true,true,true,true,true,true,true,true,true,true,true,true,false,false,false,false,false,false,false,false,false,false,false,false,false,false,false] rfl rfl (qn HT_.out (by kernel_rfl)) (fun _ _ _ h=>h) (Or.inl ⟨by rfl,?_⟩) ?_ ?_;rotate_left
       ·intro w'
        go_simp
        with_reducible rfl
       rotate_left
       ·simp only [Act.put,qSa,qSb,qSc,qm,qq]
        rfl
       refine qw (i:=14) (N:=some 30) (v:=undef) (a':=?_) #[true,true,true,true,true,true,true,true,true,true,true,true,true,true,true,false,false,false,false,false,false,false,false,false,false,false,false,false,false] rfl rfl (qn HT_.out (by kernel_rfl)) (fun _ _ _ h=>h) (Or.inr ⟨by rfl,rfl⟩) ?_ ?_;rotate_left
       ·simp only [Act.put,qSa,qSb,qSc,qm,qq]
        rfl
       refine qw (i:=15) (N:=some 31) (v:=undef) (a':=?_) #[true,true,true,true,true,true,true,true,true,true,true,true,true,true,true,true,false,false,false,false,false,false,false,false,false,false,false,false,false] rfl rfl (qn HT_.out (by kernel_rfl)) (fun _ _ _ h=>h) (Or.inr ⟨by rfl,rfl⟩) ?_ ?_;rotate_left
       ·simp only [Act.put,qSa,qSb,qSc,qm,qq]
        rfl
       refine qw (i:=16) (N:=some 32) (v:=undef) (a':=?_) #[true,true,true,true,true,true,true,true,true,true,true,true,true,true,true,true,true,false,false,false,false,false,false,false,false,false,false,false,false] rfl rfl (qn HT_.out (by kernel_rfl)) (fun _ _ _ h=>h) (Or.inr ⟨by rfl,rfl⟩) ?_ ?_;rotate_left
       ·simp only [Act.put,qSa,qSb,qSc,qm,qq]
        rfl
       refine qw (i:=17) (N:=some 33) (v:=undef) (a':=?_) #[true,true,true,true,true,true,true,true,true,true,true,true,true,true,true,true,true,true,false,false,false,false,false,false,false,false,false,false,false] rfl rfl (qn HT_.out (by kernel_rfl)) (fun _ _ _ h=>h) (Or.inr ⟨by rfl,rfl⟩) ?_ ?_;rotate_left
       ·simp only [Act.put,qSa,qSb,qSc,qm,qq]
        rfl
       refine qw (i:=18) (N:=some 34) (v:=?_) (a':=?_) #[true,true,true,true,true,true,true,true,true,true,true,true,true,true,true,true,true,true,true,false,false,false,false,false,false,false,false,false,false] rfl rfl (qn HT_.out (by kernel_rfl)) (fun _ _ _ h=>h) (Or.inl ⟨by rfl,?_⟩) ?_ ?_;rotate_left
       ·intro w'
        go_simp
        with_reducible rfl
       rotate_left
       ·simp only [Act.put,qSa,qSb,qSc,qm,qq]
        rfl
       refine qw (i:=19) (N:=some 35) (v:=?_) (a':=?_) #[true,true,true,true,true,true,true,true,true,true,true,true,true,true,true,true,true,true,true,true,false,false,false,false,false,false,false,false,false] rfl rfl (qn HT_.out (by kernel_rfl)) (fun _ _ _ h=>h) (Or.inl ⟨by rfl,?_⟩) ?_ ?_;rotate_left
       ·intro w'
        go_simp
        with_reducible rfl
       rotate_left
       ·simp only [Act.put,qSa,qSb,qSc,qm,qq]
        rfl
       refine qw (i:=20) (N:=some 36) (v:=undef) (a':=?_) #[true,true,true,true,true,true,true,true,true,true,true,true,true,true,true,true,true,true,true,true,true,false,false,false,false,false,false,false,false] rfl rfl (qn HT_.out (by kernel_rfl)) (fun _ _ _ h=>h) (Or.inr ⟨by rfl,rfl⟩) ?_ ?_;rotate_left
       ·simp only [Act.put,qSa,qSb,qSc,qm,qq]
        rfl
       refine qw (i:=21) (N:=some 37) (v:=undef) (a':=?_) #[true,true,true,true,true,true,true,true,true,true,true,true,true,true,true,true,true,true,true,true,true,true,false,false,false,false,false,false,false] rfl rfl (qn HT_.out (by kernel_rfl)) (fun _ _ _ h=>h) (Or.inr ⟨by rfl,rfl⟩) ?_ ?_;rotate_left
       ·simp only [Act.put,qSa,qSb,qSc,qm,qq]
        rfl
       refine qw (i:=22) (N:=some 38) (v:=undef) (a':=?_) #[true,true,true,true,true,true,true,true,true,true,true,true,true,true,true,true,true,true,true,true,true,true,true,false,false,false,false,false,false] rfl rfl (qn HT_.out (by kernel_rfl)) (fun _ _ _ h=>h) (Or.inr ⟨by rfl,rfl⟩) ?_ ?_;rotate_left
       ·simp only [Act.put,qSa,qSb,qSc,qm,qq]
        rfl
       refine qw (i:=23) (N:=some 39) (v:=undef) (a':=?_) #[true,true,true,true,true,true,true,true,true,true,true,true,true,true,true,true,true,true,true,true,true,true,true,true,false,false,false,false,false] rfl rfl (qn HT_.out (by kernel_rfl)) (fun _ _ _ h=>h) (Or.inr ⟨by rfl,rfl⟩) ?_ ?_;rotate_left
       ·simp only [Act.put,qSa,qSb,qSc,qm,qq]
        rfl
       refine qw (i:=24) (N:=some 40) (v:=?_) (a':=?_) #[true,true,true,true,true,true,true,true,true,true,true,true,true,true,true,true,true,true,true,true,true,true,true,true,true,false,false,false,false] rfl rfl (qn HT_.out (by kernel_rfl)) (fun _ _ _ h=>h) (Or.inl ⟨by rfl,?_⟩) ?_ ?_;rotate_left
       ·intro w'
        go_simp
        with_reducible rfl
       rotate_left
       ·simp only [Act.put,qSa,qSb,qSc,qm,qq]
        rfl
       refine qw (i:=25) (N:=some 41) (v:=?_) (a':=?_) #[true,true,true,true,true,true,true,true,true,true,true,true,true,true,true,true,true,true,true,true,true,true,true,true,true,true,false,false,false] rfl rfl (qn HT_.out (by kernel_rfl)) (fun _ _ _ h=>h) (Or.inl ⟨by rfl,?_⟩) ?_ ?_;rotate_left
       ·intro w'
        go_simp
        with_reducible rfl
       rotate_left
       ·simp only [Act.put,qSa,qSb,qSc,qm,qq]
        rfl
       refine qw (i:=26) (N:=some 42) (v:=undef) (a':=?_) #[true,true,true,true,true,true,true,true,true,true,true,true,true,true,true,true,true,true,true,true,true,true,true,true,true,true,true,false,false] rfl rfl (qn HT_.out (by kernel_rfl)) (fun _ _ _ h=>h) (Or.inr ⟨by rfl,rfl⟩) ?_ ?_;rotate_left
       ·simp only [Act.put,qSa,qSb,qSc,qm,qq]
        rfl
       refine qw (i:=27) (N:=some 43) (v:=?_) (a':=?_) #[true,true,true,true,true,true,true,true,true,true,true,true,true,true,true,true,true,true,true,true,true,true,true,true,true,true,true,true,false] rfl rfl (qn HT_.out (by kernel_rfl)) (fun _ _ _ h=>h) (Or.inl ⟨by rfl,?_⟩) ?_ ?_;rotate_left
       ·intro w'
        go_simp
        with_reducible rfl
       rotate_left
       ·simp only [Act.put,qSa,qSb,qSc,qm,qq]
        rfl
       refine qw (i:=28) (N:=some 4) (v:=?_) (a':=?_) #[true,true,true,true,true,true,true,true,true,true,true,true,true,true,true,true,true,true,true,true,true,true,true,true,true,true,true,true,true] rfl rfl (qn HT_.out (by kernel_rfl)) (fun _ _ _ h=>h) (Or.inl ⟨by rfl,?_⟩) ?_ ?_;rotate_left
       ·intro w'
        go_simp
        with_reducible rfl
       rotate_left
       ·simp only [Act.put,qSa,qSb,qSc,qm,qq]
        rfl
       refine jn (zK HT_.out (by kernel_rfl)) ?_;try go_wp2
       go_ret
       exact⟨by first|rfl|(simp [qK,qL] <;> rfl)|(simp [*,qK,qL] <;> rfl),by repeat(first|(with_reducible first|exact HB.out|apply qd|apply qa|apply qc|refine qh ?_ Ad.out|refine qh ?_ Ae.out)|exact HB.out)⟩
end Go.Proofs.YtalpmbeddldfoaaDoor.PA
