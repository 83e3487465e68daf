import Derived.Test.YtalpmbeddldfoaaDoorF0
import Derived.Test.YtalpmbeddldfoaaDoorFApiPair87
import Derived.Test.YtalpmbeddldfoaaDoorFKvoneFind
import Derived.Test.YtalpmbeddldfoaaDoorFKvoneDo
import Derived.Test.YtalpmbeddldfoaaDoorFKvtwoSet
import Derived.Test.YtalpmbeddldfoaaDoorFKvtwoNext
import Derived.Test.YtalpmbeddldfoaaDoorFKvtwoCas
namespace Go.Proofs.YtalpmbeddldfoaaDoor.PA
open Go.RowKit Go.Proofs.YtalpmbeddldfoaaDoor.Hand Go.Proofs.YtalpmbeddldfoaaDoorW.PrintWords Go.Proofs.YtalpmbeddldfoaaDoorW.PrintLast Go.Proofs.YtalpmbeddldfoaaDoorW.PrintMore
attribute [local go_sem] vQ vS zc za vH vJ vR vT   -- for this text's walks alone
attribute [local go_sem high] vZ zd zb
set_option linter.unusedVariables false
set_option linter.unusedSimpArgs false
def vv.j0 : Nat→List (vA)→Bool→Int→Int→Int→ByteArray→ByteArray→ByteArray→Int→ByteArray→ByteArray→Int→Int→Int→Int→Bool→ByteArray→Int→Option ((List (vA)) × Int × Int × Int × Bool × ByteArray × Int)
 | 0,_,_,_,_,_,_,_,_,_,_,_,_,_,_,_,_,_,_=>none
 | k + 1,x9,x41,x568000,x568001,x568002,Bt,Bu,x568005,x568006,x586000,x586001,Bv,Bh,Bi,Bj,Bk,Bm,Bn=>if x41=true then((zG.f Bv).bind fun Bb=>((vW.f k x9 Bt Bu Bb).bind fun Bc=>(some (Bc,Bh,Bi,Bj,Bk,Bm,Bn)))) else(some (x9,Bh,Bi,Bj,Bk,Bm,Bn))
def vv.f(k : Nat)(l0 : List (vA))(a1_0 : Int)(a1_1 : Int)(a1_2 : Int)(a1_3 : ByteArray)(a1_4 : ByteArray)(a1_5 : ByteArray)(a1_6 : Int) : Option ((List (vA)) × Int × Int × Int × Bool × ByteArray × Int):=(vY.f l0).bind fun AA=>(if a1_0=5 then((vE.f k AA a1_0 a1_1 a1_2 a1_3 a1_4 a1_5 a1_6).bind fun bt572=>(some (bt572.1,bt572.2.1,bt572.2.2.1,bt572.2.2.2.1,bt572.2.2.2.2.1,bt572.2.2.2.2.2.1,bt572.2.2.2.2.2.2))) else((vC.f k AA a1_3).bind fun bt581=>((zv.f k AA a1_0 a1_1 a1_2 a1_3 a1_4 a1_5 a1_6).bind fun bt586=>(if a1_0=2 then(vv.j0 k bt586.1 (bt586.2.2.2.1 == 0) a1_0 a1_1 a1_2 a1_3 a1_4 a1_5 a1_6 bt581.1 bt581.2.1 bt581.2.2.1 bt586.2.1 bt586.2.2.1 bt586.2.2.2.1 bt586.2.2.2.2.1 bt586.2.2.2.2.2.1 bt586.2.2.2.2.2.2) else(vv.j0 k bt586.1 false a1_0 a1_1 a1_2 a1_3 a1_4 a1_5 a1_6 bt581.1 bt581.2.1 bt581.2.2.1 bt586.2.1 bt586.2.2.1 bt586.2.2.2.1 bt586.2.2.2.2.1 bt586.2.2.2.2.2.1 bt586.2.2.2.2.2.2)))))
theorem vv.mono_l : ∀ k,(∀ y0 y1 y2 y3 y4 y5 y6 y7 y8 y9 y10 y11 y12 y13 y14 y15 y16 y17,qY (vv.j0 k y0 y1 y2 y3 y4 y5 y6 y7 y8 y9 y10 y11 y12 y13 y14 y15 y16 y17) (vv.j0 (k + 1) y0 y1 y2 y3 y4 y5 y6 y7 y8 y9 y10 y11 y12 y13 y14 y15 y16 y17))
 | 0=>fun _ _ _ _ _ _ _ _ _ _ _ _ _ _ _ _ _ _ r h=>by simp [vv.j0] at h
 | k + 1=>by
  have ih0:=vv.mono_l k
  ·intro y0 y1 y2 y3 y4 y5 y6 y7 y8 y9 y10 y11 y12 y13 y14 y15 y16 y17
   unfold vv.j0
   repeat' first
   | (with_reducible exact ih0 _ _ _ _ _ _ _ _ _ _ _ _ _ _ _ _ _ _)
   | (with_reducible exact zv.mono _ _ _ _ _ _ _ _ _)
   | (with_reducible exact vC.mono _ _ _)
   | (with_reducible exact vE.mono _ _ _ _ _ _ _ _ _)
   | (with_reducible exact vW.mono _ _ _ _ _)
   | (with_reducible exact qY.refl _)
   | (with_reducible exact qY.none _)
   | (with_reducible refine qY.ite ?_ ?_)
   | (with_reducible refine qY.bind ?_ (fun _=>?_))
   | exact ih0 _ _ _ _ _ _ _ _ _ _ _ _ _ _ _ _ _ _
   | exact zv.mono _ _ _ _ _ _ _ _ _
   | exact vC.mono _ _ _
   | exact vE.mono _ _ _ _ _ _ _ _ _
   | exact vW.mono _ _ _ _ _
   | exact qY.none _
   | refine qY.ite ?_ ?_
   | refine qY.bind ?_ (fun _=>?_)
theorem vv.mono : ∀ a0 a1 a2 a3 a4 a5 a6 a7 k,qY (vv.f k a0 a1 a2 a3 a4 a5 a6 a7) (vv.f (k + 1) a0 a1 a2 a3 a4 a5 a6 a7):=by
 intro a0 a1 a2 a3 a4 a5 a6 a7 k;have ih0:=vv.mono_l k;unfold vv.f
 repeat' first
  | (with_reducible exact ih0 _ _ _ _ _ _ _ _ _ _ _ _ _ _ _ _ _ _)
  | (with_reducible exact zv.mono _ _ _ _ _ _ _ _ _)
  | (with_reducible exact vC.mono _ _ _)
  | (with_reducible exact vE.mono _ _ _ _ _ _ _ _ _)
  | (with_reducible exact vW.mono _ _ _ _ _)
  | (with_reducible exact qY.refl _)
  | (with_reducible exact qY.none _)
  | (with_reducible refine qY.ite ?_ ?_)
  | (with_reducible refine qY.bind ?_ (fun _=>?_))
  | exact ih0 _ _ _ _ _ _ _ _ _ _ _ _ _ _ _ _ _ _
  | exact zv.mono _ _ _ _ _ _ _ _ _
  | exact vC.mono _ _ _
  | exact vE.mono _ _ _ _ _ _ _ _ _
  | exact vW.mono _ _ _ _ _
  | exact qY.none _
  | refine qY.ite ?_ ?_
  | refine qY.bind ?_ (fun _=>?_)
def vv.T7 : Bool × List (List Nat × List Nat):=(true,[([],[]),([],[]),([1],[1]),([],[]),([3],[3]),([],[]),([5],[5]),([6],[6]),([2,4,7],[2,4,7]),([0,8,7],[0,8]),([9,9,0,1,2,3,4,5,6,7,8,9],[0,9])])
def vv.B7 : List Nat:=[0,0,2,0,8,0,32,96,254,511,1023]
theorem vv.tab7 : rtab .any (opsOf Tryd.f86 7)=vv.T7:=by kernel_rfl
theorem vv.bits7 : waitsOk vv.T7.2 vv.B7=true:=by kernel_rfl
set_option maxHeartbeats 8000000 in
set_option maxRecDepth 100000 in
theorem vv.calls(k : Nat)(A0 : Option Addr)(c0 : Nat)(l0 : List (vA))(a1_0 : Int)(a1_1 : Int)(a1_2 : Int)(a1_3 : ByteArray)(a1_4 : ByteArray)(a1_5 : ByteArray)(a1_6 : Int)(r1 : List (vA))(r2 : Int)(r3 : Int)(r4 : Int)(r5 : Bool)(r6 : ByteArray)(r7 : Int)(w : World)(hr0 : Kd.C zq w A0 l0.length l0)(hc0 : l0.length≤c0)(h : vv.f k l0 a1_0 a1_1 a1_2 a1_3 a1_4 a1_5 a1_6=some (r1,r2,r3,r4,r5,r6,r7)) :
 Calls Tryd.prog 86 #[.slice A0 l0.length c0,.agg #[.int .i64 a1_0,.int .i64 a1_1,.int .i64 a1_2,.string a1_3,.string a1_4,.string a1_5,.int .i64 a1_6]] w fun e w'=>∃ v0_ : Value,e = .returned (.tuple #[v0_,.agg #[.int .i64 r2,.int .i64 r3,.int .i64 r4,.bool r5,.string r6,.int .i64 r7]])∧Kd.R zq 50 w' w.heap.size (fun _=>True) v0_ r1∧Below w.heap.size w w':=by
 have hu87:=Tryd.underlying87;have hu72:=Tryd.underlying72;have hu50:=Tryd.underlying50;have HR0:=qd.mk hr0;have HC0:=qd.mk hc0;clear hr0 hc0;have HB:=qd.mk (Below.refl w.heap.size w);have H : ((vY.f l0).bind fun AA=>(if a1_0=5 then((vE.f k AA a1_0 a1_1 a1_2 a1_3 a1_4 a1_5 a1_6).bind fun bt572=>(some (bt572.1,bt572.2.1,bt572.2.2.1,bt572.2.2.2.1,bt572.2.2.2.2.1,bt572.2.2.2.2.2.1,bt572.2.2.2.2.2.2))) else((vC.f k AA a1_3).bind fun bt581=>((zv.f k AA a1_0 a1_1 a1_2 a1_3 a1_4 a1_5 a1_6).bind fun bt586=>(if a1_0=2 then(vv.j0 k bt586.1 (bt586.2.2.2.1 == 0) a1_0 a1_1 a1_2 a1_3 a1_4 a1_5 a1_6 bt581.1 bt581.2.1 bt581.2.2.1 bt586.2.1 bt586.2.2.1 bt586.2.2.2.1 bt586.2.2.2.2.1 bt586.2.2.2.2.2.1 bt586.2.2.2.2.2.2) else(vv.j0 k bt586.1 false a1_0 a1_1 a1_2 a1_3 a1_4 a1_5 a1_6 bt581.1 bt581.2.1 bt581.2.2.1 bt586.2.1 bt586.2.2.1 bt586.2.2.2.1 bt586.2.2.2.2.1 bt586.2.2.2.2.2.1 bt586.2.2.2.2.2.2))))))=some (r1,r2,r3,r4,r5,r6,r7):=h;clear h;replace H:=Option.bind_eq_some_iff.mp H;obtain⟨AA,A30,H⟩:=H;replace H : (if a1_0=5 then((vE.f k AA a1_0 a1_1 a1_2 a1_3 a1_4 a1_5 a1_6).bind fun bt572=>(some (bt572.1,bt572.2.1,bt572.2.2.1,bt572.2.2.2.1,bt572.2.2.2.2.1,bt572.2.2.2.2.2.1,bt572.2.2.2.2.2.2))) else((vC.f k AA a1_3).bind fun bt581=>((zv.f k AA a1_0 a1_1 a1_2 a1_3 a1_4 a1_5 a1_6).bind fun bt586=>(if a1_0=2 then(vv.j0 k bt586.1 (bt586.2.2.2.1 == 0) a1_0 a1_1 a1_2 a1_3 a1_4 a1_5 a1_6 bt581.1 bt581.2.1 bt581.2.2.1 bt586.2.1 bt586.2.2.1 bt586.2.2.2.1 bt586.2.2.2.2.1 bt586.2.2.2.2.2.1 bt586.2.2.2.2.2.2) else(vv.j0 k bt586.1 false a1_0 a1_1 a1_2 a1_3 a1_4 a1_5 a1_6 bt581.1 bt581.2.1 bt581.2.2.1 bt586.2.1 bt586.2.2.1 bt586.2.2.2.1 bt586.2.2.2.2.1 bt586.2.2.2.2.2.1 bt586.2.2.2.2.2.2)))))=some (r1,r2,r3,r4,r5,r6,r7):=H;have A3:=qd.mk A30;clear A30;by_cases c4 : a1_0=5
 ·rw [if_pos c4] at H
  have c4b0 : (a1_0 == 5)=true:=beq_iff_eq.mpr c4;have c4b1 : (a1_0 != 5)=false:=bne_eq_false_iff_eq.mpr c4;clear c4;replace H:=Option.bind_eq_some_iff.mp H;obtain⟨⟨t572,AZ,Bd,Bg,Bo,Bp,Bw⟩,A50,H⟩:=H;replace H : (some (t572,AZ,Bd,Bg,Bo,Bp,Bw))=some (r1,r2,r3,r4,r5,r6,r7):=H;have A5:=qd.mk A50;clear A50;simp only [Option.some.injEq,Prod.mk.injEq] at H;obtain⟨rfl,rfl,rfl,rfl,rfl,rfl,rfl⟩:=H;go_enter Tryd.func86,Tryd.ntmps86
  go_wp2_with (first|((with_reducible refine vo (N:=3) rfl ?_);refine qZ ?hg (N:=3) ?hd (cs:=#[.int .i64 a1_0,.int .i64 a1_1,.int .i64 a1_2,.string a1_3,.string a1_4,.string a1_5,.int .i64 a1_6]) (t:=87) ?hr ?_;(case hd=>rfl);(case hg=>rfl);(case hr=>first|(go_simp;done)|(go_simp;rfl));intro Ae hg w6 hbox hb;have AB:=qd.mk (qt (by repeat(first|(with_reducible first|exact HB.out|apply qi|apply qe|apply qh)|exact HB.out)) hb);have AC:=qd.mk (hbox);have AD:=qd.mk ((by rw [hg];exact(qz (by repeat(first|(with_reducible first|exact HB.out|apply qi|apply qe|apply qh)|exact HB.out))) : w.heap.size≤Ae));have AE:=qd.mk ((by rw [hg];exact(qz (by repeat(first|(with_reducible first|exact HB.out|apply qi|apply qe|apply qh)|exact HB.out))) : w.heap.size≤Ae));clear HB;have HB:=AB;have Ab:=AC;have GW567:=AD;have As:=AE;clear AB AC AD AE;clear hb hbox hg)|((with_reducible refine vo (N:=5) rfl ?_);refine qZ ?hg (N:=5) ?hd (cs:=#[.int .i64 0,.int .i64 0,.int .i64 0,.bool false,.string (⟨#[]⟩ : ByteArray),.int .i64 0]) (t:=72) ?hr ?_;(case hd=>rfl);(case hg=>rfl);(case hr=>first|(go_simp;done)|(go_simp;rfl));intro Ac hg w7 hbox hb;have AB:=qd.mk (qD (g:=Ae) (o:=.cells #[.int .i64 a1_0,.int .i64 a1_1,.int .i64 a1_2,.string a1_3,.string a1_4,.string a1_5,.int .i64 a1_6] 87 (0,0)) (by(with_reducible repeat(first|refine qa ?_ _|refine qc ?_|refine qb ?_ _));exact Ab.out) hb);have AC:=qd.mk (qt (by repeat(first|(with_reducible first|exact HB.out|apply qi|apply qe|apply qh|refine qj ?_ As.out)|exact HB.out)) hb);have AD:=qd.mk (hbox);have AE:=qd.mk ((by rw [hg];exact(qz (by repeat(first|(with_reducible first|exact HB.out|apply qi|apply qe|apply qh|refine qj ?_ As.out)|exact HB.out))) : w.heap.size≤Ac));have AM:=qd.mk ((by rw [hg];exact(qz (by repeat(first|(with_reducible first|exact HB.out|apply qi|apply qe|apply qh|refine qj ?_ As.out)|exact HB.out))) : w.heap.size≤Ac));have AP:=qd.mk ((by rw [hg];exact Nat.ne_of_lt (qT (g:=Ae) (o:=.cells #[.int .i64 a1_0,.int .i64 a1_1,.int .i64 a1_2,.string a1_3,.string a1_4,.string a1_5,.int .i64 a1_6] 87 (0,0)) (by(with_reducible repeat(first|refine qa ?_ _|refine qc ?_|refine qb ?_ _));exact Ab.out)) : Ae≠Ac));have Bq:=qd.mk ((by rw [hg];exact Nat.ne_of_gt (qT (g:=Ae) (o:=.cells #[.int .i64 a1_0,.int .i64 a1_1,.int .i64 a1_2,.string a1_3,.string a1_4,.string a1_5,.int .i64 a1_6] 87 (0,0)) (by(with_reducible repeat(first|refine qa ?_ _|refine qc ?_|refine qb ?_ _));exact Ab.out)) : Ac≠Ae));clear Ab;clear HB;have Ab:=AB;have HB:=AC;have Ad:=AD;have GW568:=AE;have Aw:=AM;have Aj:=AP;have Ak:=Bq;clear AB AC AD AE AM AP Bq;clear hb hbox hg)|((with_reducible refine qW (f:=87) rfl ?_);refine vM (some 12) rfl rfl Tryd.func87 (by kernel_rfl) rfl #[.slice A0 l0.length c0] rfl (by(try simp only [List.map_toArray,List.map_cons,List.map_nil]);first|done|rfl|(simp only [List.length_drop,List.length_take];rfl)) ?_;(with_reducible refine(vY.calls _ _ l0 AA _ ?side1 ?side2 A3.out).mono ?_);(case side1=>repeat(first|exact(Kd.ze HR0.out HB.out)|(with_reducible refine Kd.vN ?_ _)|(with_reducible refine Kd.vP ?_ _)|(with_reducible refine Kd.vX ?_)));(case side2=>exact HC0.out);rintro e w8 ⟨v570,rfl,ho0,hb⟩;refine⟨_,rfl,?_⟩;have AB:=qd.mk (Kd.zj ho0 (qz (by repeat(first|(with_reducible first|exact HB.out|apply qi|apply qe|apply qh|refine qj ?_ As.out|refine qj ?_ Aw.out)|exact HB.out))));have AC:=qd.mk (qD (g:=Ae) (o:=.cells #[.int .i64 a1_0,.int .i64 a1_1,.int .i64 a1_2,.string a1_3,.string a1_4,.string a1_5,.int .i64 a1_6] 87 (0,0)) (by(with_reducible repeat(first|refine qa ?_ _|refine qc ?_|refine qb ?_ _));exact Ab.out) hb);have AD:=qd.mk (qD (g:=Ac) (o:=.cells #[.int .i64 0,.int .i64 0,.int .i64 0,.bool false,.string (⟨#[]⟩ : ByteArray),.int .i64 0] 72 (0,0)) (by(with_reducible repeat(first|refine qa ?_ _|refine qc ?_|refine qb ?_ _));exact Ad.out) hb);have AE:=qd.mk (qt (by repeat(first|(with_reducible first|exact HB.out|apply qi|apply qe|apply qh|refine qj ?_ As.out|refine qj ?_ Aw.out)|exact HB.out)) hb);clear Ab;clear Ad;clear HB;have Au:=AB;have Ab:=AC;have Ad:=AD;have HB:=AE;clear AB AC AD AE;(try clear hb);(try clear hb2);(try clear hk);(try clear hi);(try clear ho0);have hnb9:=Aj.out;have hnc9:=Ak.out;have Bx : w8.cell? ⟨Ae,0,none⟩=some (.int .i64 a1_0):=(qf Ab.out 0).trans rfl;have Bz : w8.cell? ⟨Ae,1,none⟩=some (.int .i64 a1_1):=(qf Ab.out 1).trans rfl;have BA : w8.cell? ⟨Ae,2,none⟩=some (.int .i64 a1_2):=(qf Ab.out 2).trans rfl;have BB : w8.cell? ⟨Ae,3,none⟩=some (.string a1_3):=(qf Ab.out 3).trans rfl;have BC : w8.cell? ⟨Ae,4,none⟩=some (.string a1_4):=(qf Ab.out 4).trans rfl;have BD : w8.cell? ⟨Ae,5,none⟩=some (.string a1_5):=(qf Ab.out 5).trans rfl;have BF : w8.cell? ⟨Ae,6,none⟩=some (.int .i64 a1_6):=(qf Ab.out 6).trans rfl;have hfz10_0:=qg Ab.out 0;have hfz10_1:=qg Ab.out 1;have hfz10_2:=qg Ab.out 2;have hfz10_3:=qg Ab.out 3;have hfz10_4:=qg Ab.out 4;have hfz10_5:=qg Ab.out 5;have hfz10_6:=qg Ab.out 6;obtain⟨Ao11,co11,eo11⟩:=Kd.vK Au.out;subst eo11)|((with_reducible refine qW (f:=122) rfl ?_);refine vM (some 18) rfl rfl Tryd.func122 (by kernel_rfl) rfl #[.slice Ao11 AA.length co11,.agg #[.int .i64 a1_0,.int .i64 a1_1,.int .i64 a1_2,.string a1_3,.string a1_4,.string a1_5,.int .i64 a1_6]] rfl (by(try simp only [List.map_toArray,List.map_cons,List.map_nil]);first|done|rfl|(simp only [List.length_drop,List.length_take];rfl)) ?_;(with_reducible refine(vE.calls k (fun k_=>some k_=(.slice Ao11 AA.length co11 : Value).ownBlock) (.slice Ao11 AA.length co11) AA a1_0 a1_1 a1_2 a1_3 a1_4 a1_5 a1_6 t572 AZ Bd Bg Bo Bp Bw w _ ?side1 ?side2 A5.out).mono ?_);(case side1=>repeat(first|(with_reducible first|exact HB.out|apply qi|apply qe|apply qh|refine qj ?_ As.out|refine qj ?_ Aw.out)|exact HB.out));(case side2=>exact Kd.R_tight rfl Au.out);rintro e w12 ⟨v573,rfl,ho0,hb,hkp⟩;refine⟨_,rfl,?_⟩;have AB:=qd.mk (zi (by(with_reducible repeat(first|refine qa ?_ _|refine qc ?_|refine qb ?_ _));exact Ab.out) hkp (fun hs_=>(fun e_=>(Kd.zH Au.out Ab.out (by decide)) e_) hs_));have AC:=qd.mk (zi (by(with_reducible repeat(first|refine qa ?_ _|refine qc ?_|refine qb ?_ _));exact Ad.out) hkp (fun hs_=>(fun e_=>(Kd.zH Au.out Ad.out (by decide)) e_) hs_));have AD:=qd.mk (Kd.vq (ok':=fun k_=>True) ho0 (fun k_ hk_=>trivial));have AE:=qd.mk (hb);clear Ab;clear Ad;clear HB;clear Au;have Ab:=AB;have Ad:=AC;have HO574:=AD;have HB:=AE;clear AB AC AD AE;(try clear hb);(try clear hkp);(try clear ho0);have BG : w12.cell? ⟨Ac,0,none⟩=some (.int .i64 0):=(qf Ad.out 0).trans rfl;have BH : w12.cell? ⟨Ac,1,none⟩=some (.int .i64 0):=(qf Ad.out 1).trans rfl;have BJ : w12.cell? ⟨Ac,2,none⟩=some (.int .i64 0):=(qf Ad.out 2).trans rfl;have BK : w12.cell? ⟨Ac,3,none⟩=some (.bool false):=(qf Ad.out 3).trans rfl;have BL : w12.cell? ⟨Ac,4,none⟩=some (.string (⟨#[]⟩ : ByteArray)):=(qf Ad.out 4).trans rfl;have BM : w12.cell? ⟨Ac,5,none⟩=some (.int .i64 0):=(qf Ad.out 5).trans rfl;have hfz13_0:=qg Ad.out 0;have hfz13_1:=qg Ad.out 1;have hfz13_2:=qg Ad.out 2;have hfz13_3:=qg Ad.out 3;have hfz13_4:=qg Ad.out 4;have hfz13_5:=qg Ad.out 5))
  refine bodyPost_ret (zD rfl _ _ Ac 72 #[.int .i64 AZ,.int .i64 Bd,.int .i64 Bg,.bool Bo,.string Bp,.int .i64 Bw] (0,0) _ rfl (by(with_reducible repeat(first|refine qa ?_ _|refine qc ?_|refine qb ?_ _));refine qx (cs:=#[.int .i64 AZ,.int .i64 Bd,.int .i64 Bg,.bool Bo,.string Bp,.int .i64 0]) ?_ 5 _ rfl;(with_reducible repeat(first|refine qa ?_ _|refine qc ?_|refine qb ?_ _));refine qx (cs:=#[.int .i64 AZ,.int .i64 Bd,.int .i64 Bg,.bool Bo,.string (⟨#[]⟩ : ByteArray),.int .i64 0]) ?_ 4 _ rfl;(with_reducible repeat(first|refine qa ?_ _|refine qc ?_|refine qb ?_ _));refine qx (cs:=#[.int .i64 AZ,.int .i64 Bd,.int .i64 Bg,.bool false,.string (⟨#[]⟩ : ByteArray),.int .i64 0]) ?_ 3 _ rfl;(with_reducible repeat(first|refine qa ?_ _|refine qc ?_|refine qb ?_ _));refine qx (cs:=#[.int .i64 AZ,.int .i64 Bd,.int .i64 0,.bool false,.string (⟨#[]⟩ : ByteArray),.int .i64 0]) ?_ 2 _ rfl;(with_reducible repeat(first|refine qa ?_ _|refine qc ?_|refine qb ?_ _));refine qx (cs:=#[.int .i64 AZ,.int .i64 0,.int .i64 0,.bool false,.string (⟨#[]⟩ : ByteArray),.int .i64 0]) ?_ 1 _ rfl;(with_reducible repeat(first|refine qa ?_ _|refine qc ?_|refine qb ?_ _));refine qx (cs:=#[.int .i64 0,.int .i64 0,.int .i64 0,.bool false,.string (⟨#[]⟩ : ByteArray),.int .i64 0]) ?_ 0 _ rfl;(with_reducible repeat(first|refine qa ?_ _|refine qc ?_|refine qb ?_ _));exact Ad.out) Tryd.underlying72 rfl (by kernel_rfl)) rfl ?_;exact⟨_,by first|rfl|(simp [qQ,qP] <;> rfl)|(simp [*,qQ,qP] <;> rfl),by(with_reducible repeat(first|apply Kd.qJ|apply Kd.qK|apply Kd.qN));exact Kd.vq (Kd.qG (p:=⟨Ac,5,none⟩) (Kd.qG (p:=⟨Ac,4,none⟩) (Kd.qG (p:=⟨Ac,3,none⟩) (Kd.qG (p:=⟨Ac,2,none⟩) (Kd.qG (p:=⟨Ac,1,none⟩) (Kd.qG (p:=⟨Ac,0,none⟩) (Kd.vF HO574.out Ad.out (by decide)) (fun _ hk=>hk.2) (.int .i64 AZ)) (fun _ hk=>hk.2) (.int .i64 Bd)) (fun _ hk=>hk.2) (.int .i64 Bg)) (fun _ hk=>hk.2) (.bool Bo)) (fun _ hk=>hk.2) (.string Bp)) (fun _ hk=>hk.2) (.int .i64 Bw)) (fun _ hk=>trivial),by repeat(first|(with_reducible first|exact HB.out|apply qi|apply qe|apply qh|refine qj ?_ As.out|refine qj ?_ Aw.out)|exact HB.out)⟩
 ·rw [if_neg c4] at H
  have c4b0 : (a1_0 == 5)=false:=beq_eq_false_iff_ne.mpr c4;have c4b1 : (a1_0 != 5)=true:=bne_iff_ne.mpr c4;replace H:=Option.bind_eq_some_iff.mp H;obtain⟨⟨AF,AJ,AH,t584⟩,A140,H⟩:=H;replace H : ((zv.f k AA a1_0 a1_1 a1_2 a1_3 a1_4 a1_5 a1_6).bind fun bt586=>(if a1_0=2 then(vv.j0 k bt586.1 (bt586.2.2.2.1 == 0) a1_0 a1_1 a1_2 a1_3 a1_4 a1_5 a1_6 AF AJ AH bt586.2.1 bt586.2.2.1 bt586.2.2.2.1 bt586.2.2.2.2.1 bt586.2.2.2.2.2.1 bt586.2.2.2.2.2.2) else(vv.j0 k bt586.1 false a1_0 a1_1 a1_2 a1_3 a1_4 a1_5 a1_6 AF AJ AH bt586.2.1 bt586.2.2.1 bt586.2.2.2.1 bt586.2.2.2.2.1 bt586.2.2.2.2.2.1 bt586.2.2.2.2.2.2)))=some (r1,r2,r3,r4,r5,r6,r7):=H;have A14:=qd.mk A140;clear A140;replace H:=Option.bind_eq_some_iff.mp H;obtain⟨⟨AV,At,Av,Ax,Ay,AG,AK⟩,A150,H⟩:=H;replace H : (if a1_0=2 then(vv.j0 k AV (Ax == 0) a1_0 a1_1 a1_2 a1_3 a1_4 a1_5 a1_6 AF AJ AH At Av Ax Ay AG AK) else(vv.j0 k AV false a1_0 a1_1 a1_2 a1_3 a1_4 a1_5 a1_6 AF AJ AH At Av Ax Ay AG AK))=some (r1,r2,r3,r4,r5,r6,r7):=H;have A15:=qd.mk A150;clear A150;have CK:=qd.mk H;clear H;go_enter Tryd.func86,Tryd.ntmps86
  go_upto_region 6 with (first|((with_reducible refine vo (N:=3) rfl ?_);refine qZ ?hg (N:=3) ?hd (cs:=#[.int .i64 a1_0,.int .i64 a1_1,.int .i64 a1_2,.string a1_3,.string a1_4,.string a1_5,.int .i64 a1_6]) (t:=87) ?hr ?_;(case hd=>rfl);(case hg=>rfl);(case hr=>first|(go_simp;done)|(go_simp;rfl));intro Ae hg w17 hbox hb;have AB:=qd.mk (qt (by repeat(first|(with_reducible first|exact HB.out|apply qi|apply qe|apply qh)|exact HB.out)) hb);have AC:=qd.mk (hbox);have AD:=qd.mk ((by rw [hg];exact(qz (by repeat(first|(with_reducible first|exact HB.out|apply qi|apply qe|apply qh)|exact HB.out))) : w.heap.size≤Ae));have AE:=qd.mk ((by rw [hg];exact(qz (by repeat(first|(with_reducible first|exact HB.out|apply qi|apply qe|apply qh)|exact HB.out))) : w.heap.size≤Ae));clear HB;have HB:=AB;have Ab:=AC;have GW567:=AD;have As:=AE;clear AB AC AD AE;clear hb hbox hg)|((with_reducible refine vo (N:=5) rfl ?_);refine qZ ?hg (N:=5) ?hd (cs:=#[.int .i64 0,.int .i64 0,.int .i64 0,.bool false,.string (⟨#[]⟩ : ByteArray),.int .i64 0]) (t:=72) ?hr ?_;(case hd=>rfl);(case hg=>rfl);(case hr=>first|(go_simp;done)|(go_simp;rfl));intro Ac hg w18 hbox hb;have AB:=qd.mk (qD (g:=Ae) (o:=.cells #[.int .i64 a1_0,.int .i64 a1_1,.int .i64 a1_2,.string a1_3,.string a1_4,.string a1_5,.int .i64 a1_6] 87 (0,0)) (by(with_reducible repeat(first|refine qa ?_ _|refine qc ?_|refine qb ?_ _));exact Ab.out) hb);have AC:=qd.mk (qt (by repeat(first|(with_reducible first|exact HB.out|apply qi|apply qe|apply qh|refine qj ?_ As.out)|exact HB.out)) hb);have AD:=qd.mk (hbox);have AE:=qd.mk ((by rw [hg];exact(qz (by repeat(first|(with_reducible first|exact HB.out|apply qi|apply qe|apply qh|refine qj ?_ As.out)|exact HB.out))) : w.heap.size≤Ac));have AM:=qd.mk ((by rw [hg];exact(qz (by repeat(first|(with_reducible first|exact HB.out|apply qi|apply qe|apply qh|refine qj ?_ As.out)|exact HB.out))) : w.heap.size≤Ac));have AP:=qd.mk ((by rw [hg];exact Nat.ne_of_lt (qT (g:=Ae) (o:=.cells #[.int .i64 a1_0,.int .i64 a1_1,.int .i64 a1_2,.string a1_3,.string a1_4,.string a1_5,.int .i64 a1_6] 87 (0,0)) (by(with_reducible repeat(first|refine qa ?_ _|refine qc ?_|refine qb ?_ _));exact Ab.out)) : Ae≠Ac));have Bq:=qd.mk ((by rw [hg];exact Nat.ne_of_gt (qT (g:=Ae) (o:=.cells #[.int .i64 a1_0,.int .i64 a1_1,.int .i64 a1_2,.string a1_3,.string a1_4,.string a1_5,.int .i64 a1_6] 87 (0,0)) (by(with_reducible repeat(first|refine qa ?_ _|refine qc ?_|refine qb ?_ _));exact Ab.out)) : Ac≠Ae));clear Ab;clear HB;have Ab:=AB;have HB:=AC;have Ad:=AD;have GW568:=AE;have Aw:=AM;have Aj:=AP;have Ak:=Bq;clear AB AC AD AE AM AP Bq;clear hb hbox hg)|((with_reducible refine qW (f:=87) rfl ?_);refine vM (some 12) rfl rfl Tryd.func87 (by kernel_rfl) rfl #[.slice A0 l0.length c0] rfl (by(try simp only [List.map_toArray,List.map_cons,List.map_nil]);first|done|rfl|(simp only [List.length_drop,List.length_take];rfl)) ?_;(with_reducible refine(vY.calls _ _ l0 AA _ ?side1 ?side2 A3.out).mono ?_);(case side1=>repeat(first|exact(Kd.ze HR0.out HB.out)|(with_reducible refine Kd.vN ?_ _)|(with_reducible refine Kd.vP ?_ _)|(with_reducible refine Kd.vX ?_)));(case side2=>exact HC0.out);rintro e CL ⟨v570,rfl,ho0,hb⟩;refine⟨_,rfl,?_⟩;have AB:=qd.mk (Kd.zj ho0 (qz (by repeat(first|(with_reducible first|exact HB.out|apply qi|apply qe|apply qh|refine qj ?_ As.out|refine qj ?_ Aw.out)|exact HB.out))));have AC:=qd.mk (qD (g:=Ae) (o:=.cells #[.int .i64 a1_0,.int .i64 a1_1,.int .i64 a1_2,.string a1_3,.string a1_4,.string a1_5,.int .i64 a1_6] 87 (0,0)) (by(with_reducible repeat(first|refine qa ?_ _|refine qc ?_|refine qb ?_ _));exact Ab.out) hb);have AD:=qd.mk (qD (g:=Ac) (o:=.cells #[.int .i64 0,.int .i64 0,.int .i64 0,.bool false,.string (⟨#[]⟩ : ByteArray),.int .i64 0] 72 (0,0)) (by(with_reducible repeat(first|refine qa ?_ _|refine qc ?_|refine qb ?_ _));exact Ad.out) hb);have AE:=qd.mk (qt (by repeat(first|(with_reducible first|exact HB.out|apply qi|apply qe|apply qh|refine qj ?_ As.out|refine qj ?_ Aw.out)|exact HB.out)) hb);clear Ab;clear Ad;clear HB;have Au:=AB;have Ab:=AC;have Ad:=AD;have HB:=AE;clear AB AC AD AE;(try clear hb);(try clear hb2);(try clear hk);(try clear hi);(try clear ho0);have hnb20:=Aj.out;have hnc20:=Ak.out;have BN : CL.cell? ⟨Ae,0,none⟩=some (.int .i64 a1_0):=(qf Ab.out 0).trans rfl;have BP : CL.cell? ⟨Ae,1,none⟩=some (.int .i64 a1_1):=(qf Ab.out 1).trans rfl;have BQ : CL.cell? ⟨Ae,2,none⟩=some (.int .i64 a1_2):=(qf Ab.out 2).trans rfl;have BR : CL.cell? ⟨Ae,3,none⟩=some (.string a1_3):=(qf Ab.out 3).trans rfl;have BS : CL.cell? ⟨Ae,4,none⟩=some (.string a1_4):=(qf Ab.out 4).trans rfl;have BT : CL.cell? ⟨Ae,5,none⟩=some (.string a1_5):=(qf Ab.out 5).trans rfl;have BU : CL.cell? ⟨Ae,6,none⟩=some (.int .i64 a1_6):=(qf Ab.out 6).trans rfl;have hfz21_0:=qg Ab.out 0;have hfz21_1:=qg Ab.out 1;have hfz21_2:=qg Ab.out 2;have hfz21_3:=qg Ab.out 3;have hfz21_4:=qg Ab.out 4;have hfz21_5:=qg Ab.out 5;have hfz21_6:=qg Ab.out 6;obtain⟨Ao22,co22,eo22⟩:=Kd.vK Au.out;subst eo22)|((with_reducible refine qW (f:=51) rfl ?_);refine vM (some 25) rfl rfl Tryd.func51 (by kernel_rfl) rfl #[.slice Ao22 AA.length co22,.string a1_3] rfl (by(try simp only [List.map_toArray,List.map_cons,List.map_nil]);first|done|rfl|(simp only [List.length_drop,List.length_take];rfl)) ?_;(with_reducible refine(vC.calls k _ _ AA a1_3 AF AJ AH t584 _ ?side1 ?side2 A14.out).mono ?_);(case side1=>repeat(first|exact(Kd.vu Au.out).2.2|(with_reducible refine Kd.vN ?_ _)|(with_reducible refine Kd.vP ?_ _)|(with_reducible refine Kd.vX ?_)));(case side2=>exact(Kd.vu Au.out).2.1);rintro e w23 ⟨rfl,hb⟩;refine⟨_,rfl,?_⟩;have AB:=qd.mk (Kd.vr (by(with_reducible repeat(first|apply Kd.qJ|apply Kd.qK|apply Kd.qN));exact Au.out) hb);have AC:=qd.mk (qD (g:=Ae) (o:=.cells #[.int .i64 a1_0,.int .i64 a1_1,.int .i64 a1_2,.string a1_3,.string a1_4,.string a1_5,.int .i64 a1_6] 87 (0,0)) (by(with_reducible repeat(first|refine qa ?_ _|refine qc ?_|refine qb ?_ _));exact Ab.out) hb);have AD:=qd.mk (qD (g:=Ac) (o:=.cells #[.int .i64 0,.int .i64 0,.int .i64 0,.bool false,.string (⟨#[]⟩ : ByteArray),.int .i64 0] 72 (0,0)) (by(with_reducible repeat(first|refine qa ?_ _|refine qc ?_|refine qb ?_ _));exact Ad.out) hb);have AE:=qd.mk (qt (by repeat(first|(with_reducible first|exact HB.out|apply qi|apply qe|apply qh|refine qj ?_ As.out|refine qj ?_ Aw.out)|exact HB.out)) hb);clear Au;clear Ab;clear Ad;clear HB;have Au:=AB;have Ab:=AC;have Ad:=AD;have HB:=AE;clear AB AC AD AE;(try clear hb);(try clear hb2);(try clear hk);(try clear hi))|((with_reducible refine vo (N:=7) rfl ?_);refine qZ ?hg (N:=7) ?hd (cs:=#[.string (⟨#[]⟩ : ByteArray),.string (⟨#[]⟩ : ByteArray),.int .i64 0]) (t:=50) ?hr ?_;(case hd=>rfl);(case hg=>rfl);(case hr=>first|(go_simp;done)|(go_simp;rfl));intro Ao hg Bs hbox hb;have AB:=qd.mk (Kd.vr (Kd.zC (by(with_reducible repeat(first|apply Kd.qJ|apply Kd.qK|apply Kd.qN));exact Au.out) Ao (Nat.le_of_eq hg.symm)) hb);have AC:=qd.mk (qD (g:=Ae) (o:=.cells #[.int .i64 a1_0,.int .i64 a1_1,.int .i64 a1_2,.string a1_3,.string a1_4,.string a1_5,.int .i64 a1_6] 87 (0,0)) (by(with_reducible repeat(first|refine qa ?_ _|refine qc ?_|refine qb ?_ _));exact Ab.out) hb);have AD:=qd.mk (qD (g:=Ac) (o:=.cells #[.int .i64 0,.int .i64 0,.int .i64 0,.bool false,.string (⟨#[]⟩ : ByteArray),.int .i64 0] 72 (0,0)) (by(with_reducible repeat(first|refine qa ?_ _|refine qc ?_|refine qb ?_ _));exact Ad.out) hb);have AE:=qd.mk (qt (by repeat(first|(with_reducible first|exact HB.out|apply qi|apply qe|apply qh|refine qj ?_ As.out|refine qj ?_ Aw.out)|exact HB.out)) hb);have AM:=qd.mk (hbox);have AP:=qd.mk ((by rw [hg];exact(qz (by repeat(first|(with_reducible first|exact HB.out|apply qi|apply qe|apply qh|refine qj ?_ As.out|refine qj ?_ Aw.out)|exact HB.out))) : w.heap.size≤Ao));have Bq:=qd.mk ((by rw [hg];exact(qz (by repeat(first|(with_reducible first|exact HB.out|apply qi|apply qe|apply qh|refine qj ?_ As.out|refine qj ?_ Aw.out)|exact HB.out))) : w.heap.size≤Ao));have n7_:=qd.mk ((by rw [hg];exact Nat.ne_of_lt (qT (g:=Ae) (o:=.cells #[.int .i64 a1_0,.int .i64 a1_1,.int .i64 a1_2,.string a1_3,.string a1_4,.string a1_5,.int .i64 a1_6] 87 (0,0)) (by(with_reducible repeat(first|refine qa ?_ _|refine qc ?_|refine qb ?_ _));exact Ab.out)) : Ae≠Ao));have n8_:=qd.mk ((by rw [hg];exact Nat.ne_of_gt (qT (g:=Ae) (o:=.cells #[.int .i64 a1_0,.int .i64 a1_1,.int .i64 a1_2,.string a1_3,.string a1_4,.string a1_5,.int .i64 a1_6] 87 (0,0)) (by(with_reducible repeat(first|refine qa ?_ _|refine qc ?_|refine qb ?_ _));exact Ab.out)) : Ao≠Ae));have n9_:=qd.mk ((by rw [hg];exact Nat.ne_of_lt (qT (g:=Ac) (o:=.cells #[.int .i64 0,.int .i64 0,.int .i64 0,.bool false,.string (⟨#[]⟩ : ByteArray),.int .i64 0] 72 (0,0)) (by(with_reducible repeat(first|refine qa ?_ _|refine qc ?_|refine qb ?_ _));exact Ad.out)) : Ac≠Ao));have Br:=qd.mk ((by rw [hg];exact Nat.ne_of_gt (qT (g:=Ac) (o:=.cells #[.int .i64 0,.int .i64 0,.int .i64 0,.bool false,.string (⟨#[]⟩ : ByteArray),.int .i64 0] 72 (0,0)) (by(with_reducible repeat(first|refine qa ?_ _|refine qc ?_|refine qb ?_ _));exact Ad.out)) : Ao≠Ac));clear Au;clear Ab;clear Ad;clear HB;have Au:=AB;have Ab:=AC;have Ad:=AD;have HB:=AE;have Ah:=AM;have GW585:=AP;have AL:=Bq;have Az:=n7_;have AQ:=n8_;have Am:=n9_;have Ar:=Br;clear AB AC AD AE AM AP Bq n7_ n8_ n9_ Br;clear hb hbox hg;have hnb25:=AQ.out;have hnc25:=Az.out;have hnb26:=Ar.out;have hnc26:=Am.out;have BV : Bs.cell? ⟨Ao,0,none⟩=some (.string (⟨#[]⟩ : ByteArray)):=(qf Ah.out 0).trans rfl;have BW : Bs.cell? ⟨Ao,1,none⟩=some (.string (⟨#[]⟩ : ByteArray)):=(qf Ah.out 1).trans rfl;have BX : Bs.cell? ⟨Ao,2,none⟩=some (.int .i64 0):=(qf Ah.out 2).trans rfl;have hfz27_0:=qg Ah.out 0;have hfz27_1:=qg Ah.out 1;have hfz27_2:=qg Ah.out 2;have BZ : Bs.cell? ⟨Ae,0,none⟩=some (.int .i64 a1_0):=(qf Ab.out 0).trans rfl;have Ca : Bs.cell? ⟨Ae,1,none⟩=some (.int .i64 a1_1):=(qf Ab.out 1).trans rfl;have Cb : Bs.cell? ⟨Ae,2,none⟩=some (.int .i64 a1_2):=(qf Ab.out 2).trans rfl;have Cc : Bs.cell? ⟨Ae,3,none⟩=some (.string a1_3):=(qf Ab.out 3).trans rfl;have Cd : Bs.cell? ⟨Ae,4,none⟩=some (.string a1_4):=(qf Ab.out 4).trans rfl;have Ce : Bs.cell? ⟨Ae,5,none⟩=some (.string a1_5):=(qf Ab.out 5).trans rfl;have Cf : Bs.cell? ⟨Ae,6,none⟩=some (.int .i64 a1_6):=(qf Ab.out 6).trans rfl;have hfz28_0:=qg Ab.out 0;have hfz28_1:=qg Ab.out 1;have hfz28_2:=qg Ab.out 2;have hfz28_3:=qg Ab.out 3;have hfz28_4:=qg Ab.out 4;have hfz28_5:=qg Ab.out 5;have hfz28_6:=qg Ab.out 6)|((with_reducible refine qW (f:=84) rfl ?_);refine vM (some 31) rfl rfl Tryd.func84 (by kernel_rfl) rfl #[.slice Ao22 AA.length co22,.agg #[.int .i64 a1_0,.int .i64 a1_1,.int .i64 a1_2,.string a1_3,.string a1_4,.string a1_5,.int .i64 a1_6]] rfl (by(try simp only [List.map_toArray,List.map_cons,List.map_nil]);first|done|rfl|(simp only [List.length_drop,List.length_take];rfl)) ?_;(with_reducible refine(zv.calls k _ _ AA a1_0 a1_1 a1_2 a1_3 a1_4 a1_5 a1_6 AV At Av Ax Ay AG AK _ ?side1 ?side2 A15.out).mono ?_);(case side1=>refine(Kd.vu (e:=50) (base:=w.heap.size) (ok:=fun k_=>(True∧k_≠Ao)) (n:=AA.length) (c:=co22) ?_).2.2;exact(by(with_reducible repeat(first|apply Kd.qJ|apply Kd.qK|apply Kd.qN));exact(Kd.vq (Kd.qG (p:=⟨Ao,2,none⟩) (Kd.qG (p:=⟨Ao,1,none⟩) (Kd.qG (p:=⟨Ao,0,none⟩) (Kd.vq Au.out (fun k_ hk=>(⟨hk,hk.2⟩ : _∧k_≠Ao))) (fun _ hk=>hk.2) (.string AF)) (fun _ hk=>hk.2) (.string AJ)) (fun _ hk=>hk.2) (.int .i64 AH)) (fun _ h_=>h_.1))));(case side2=>exact(Kd.vu Au.out).2.1);rintro e w29 ⟨v587,rfl,ho0,hb⟩;refine⟨_,rfl,?_⟩;have AB:=qd.mk (Kd.R_elder' (by(with_reducible repeat(first|apply Kd.qJ|apply Kd.qK|apply Kd.qN));exact(Kd.vq (Kd.qG (p:=⟨Ao,2,none⟩) (Kd.qG (p:=⟨Ao,1,none⟩) (Kd.qG (p:=⟨Ao,0,none⟩) (Kd.vq Au.out (fun k_ hk=>(⟨hk,hk.2⟩ : _∧k_≠Ao))) (fun _ hk=>hk.2) (.string AF)) (fun _ hk=>hk.2) (.string AJ)) (fun _ hk=>hk.2) (.int .i64 AH)) (fun _ h_=>h_.1))) (Kd.R_base ho0) hb);have AC:=qd.mk (Kd.zj (Kd.R_newB (Kd.R_new' ho0 (Kd.R_lt (by(with_reducible repeat(first|apply Kd.qJ|apply Kd.qK|apply Kd.qN));exact(Kd.vq (Kd.qG (p:=⟨Ao,2,none⟩) (Kd.qG (p:=⟨Ao,1,none⟩) (Kd.qG (p:=⟨Ao,0,none⟩) (Kd.vq Au.out (fun k_ hk=>(⟨hk,hk.2⟩ : _∧k_≠Ao))) (fun _ hk=>hk.2) (.string AF)) (fun _ hk=>hk.2) (.string AJ)) (fun _ hk=>hk.2) (.int .i64 AH)) (fun _ h_=>h_.1))))) (g:=Ao) (o:=.cells #[.string AF,.string AJ,.int .i64 AH] 50 (0,0)) (by(with_reducible repeat(first|refine qa ?_ _|refine qc ?_|refine qb ?_ _));refine qx (cs:=#[.string AF,.string AJ,.int .i64 0]) ?_ 2 _ rfl;(with_reducible repeat(first|refine qa ?_ _|refine qc ?_|refine qb ?_ _));refine qx (cs:=#[.string AF,.string (⟨#[]⟩ : ByteArray),.int .i64 0]) ?_ 1 _ rfl;(with_reducible repeat(first|refine qa ?_ _|refine qc ?_|refine qb ?_ _));refine qx (cs:=#[.string (⟨#[]⟩ : ByteArray),.string (⟨#[]⟩ : ByteArray),.int .i64 0]) ?_ 0 _ rfl;(with_reducible repeat(first|refine qa ?_ _|refine qc ?_|refine qb ?_ _));exact Ah.out)) (qz (by repeat(first|(with_reducible first|exact HB.out|apply qi|apply qe|apply qh|refine qj ?_ As.out|refine qj ?_ Aw.out|refine qj ?_ AL.out)|exact HB.out))));have AD:=qd.mk (qD (g:=Ae) (o:=.cells #[.int .i64 a1_0,.int .i64 a1_1,.int .i64 a1_2,.string a1_3,.string a1_4,.string a1_5,.int .i64 a1_6] 87 (0,0)) (by(with_reducible repeat(first|refine qa ?_ _|refine qc ?_|refine qb ?_ _));refine qq ?_ Az.out _;(with_reducible repeat(first|refine qa ?_ _|refine qc ?_|refine qb ?_ _));refine qq ?_ Az.out _;(with_reducible repeat(first|refine qa ?_ _|refine qc ?_|refine qb ?_ _));refine qq ?_ Az.out _;(with_reducible repeat(first|refine qa ?_ _|refine qc ?_|refine qb ?_ _));exact Ab.out) hb);have AE:=qd.mk (qD (g:=Ac) (o:=.cells #[.int .i64 0,.int .i64 0,.int .i64 0,.bool false,.string (⟨#[]⟩ : ByteArray),.int .i64 0] 72 (0,0)) (by(with_reducible repeat(first|refine qa ?_ _|refine qc ?_|refine qb ?_ _));refine qq ?_ Am.out _;(with_reducible repeat(first|refine qa ?_ _|refine qc ?_|refine qb ?_ _));refine qq ?_ Am.out _;(with_reducible repeat(first|refine qa ?_ _|refine qc ?_|refine qb ?_ _));refine qq ?_ Am.out _;(with_reducible repeat(first|refine qa ?_ _|refine qc ?_|refine qb ?_ _));exact Ad.out) hb);have AM:=qd.mk (qD (g:=Ao) (o:=.cells #[.string AF,.string AJ,.int .i64 AH] 50 (0,0)) (by(with_reducible repeat(first|refine qa ?_ _|refine qc ?_|refine qb ?_ _));refine qx (cs:=#[.string AF,.string AJ,.int .i64 0]) ?_ 2 _ rfl;(with_reducible repeat(first|refine qa ?_ _|refine qc ?_|refine qb ?_ _));refine qx (cs:=#[.string AF,.string (⟨#[]⟩ : ByteArray),.int .i64 0]) ?_ 1 _ rfl;(with_reducible repeat(first|refine qa ?_ _|refine qc ?_|refine qb ?_ _));refine qx (cs:=#[.string (⟨#[]⟩ : ByteArray),.string (⟨#[]⟩ : ByteArray),.int .i64 0]) ?_ 0 _ rfl;(with_reducible repeat(first|refine qa ?_ _|refine qc ?_|refine qb ?_ _));exact Ah.out) hb);have AP:=qd.mk (qt (by repeat(first|(with_reducible first|exact HB.out|apply qi|apply qe|apply qh|refine qj ?_ As.out|refine qj ?_ Aw.out|refine qj ?_ AL.out)|exact HB.out)) hb);clear Au;clear Ab;clear Ad;clear Ah;clear HB;have Au:=AB;have Be:=AC;have Ab:=AD;have Ad:=AE;have Ah:=AM;have HB:=AP;clear AB AC AD AE AM AP;(try clear hb);(try clear hb2);(try clear hk);(try clear hi);(try clear ho0))|((with_reducible refine vo (N:=10) rfl ?_);refine qZ ?hg (N:=10) ?hd (cs:=#[.int .i64 0,.int .i64 0,.int .i64 0,.bool false,.string (⟨#[]⟩ : ByteArray),.int .i64 0]) (t:=72) ?hr ?_;(case hd=>rfl);(case hg=>rfl);(case hr=>first|(go_simp;done)|(go_simp;rfl));intro Ai hg AU hbox hb;have AB:=qd.mk (Kd.vr (by(with_reducible repeat(first|apply Kd.qJ|apply Kd.qK|apply Kd.qN));exact Au.out) hb);have AC:=qd.mk (Kd.vr (by(with_reducible repeat(first|apply Kd.qJ|apply Kd.qK|apply Kd.qN));exact Be.out) hb);have AD:=qd.mk (qD (g:=Ae) (o:=.cells #[.int .i64 a1_0,.int .i64 a1_1,.int .i64 a1_2,.string a1_3,.string a1_4,.string a1_5,.int .i64 a1_6] 87 (0,0)) (by(with_reducible repeat(first|refine qa ?_ _|refine qc ?_|refine qb ?_ _));exact Ab.out) hb);have AE:=qd.mk (qD (g:=Ac) (o:=.cells #[.int .i64 0,.int .i64 0,.int .i64 0,.bool false,.string (⟨#[]⟩ : ByteArray),.int .i64 0] 72 (0,0)) (by(with_reducible repeat(first|refine qa ?_ _|refine qc ?_|refine qb ?_ _));exact Ad.out) hb);have AM:=qd.mk (qD (g:=Ao) (o:=.cells #[.string AF,.string AJ,.int .i64 AH] 50 (0,0)) (by(with_reducible repeat(first|refine qa ?_ _|refine qc ?_|refine qb ?_ _));exact Ah.out) hb);have AP:=qd.mk (qt (by repeat(first|(with_reducible first|exact HB.out|apply qi|apply qe|apply qh|refine qj ?_ As.out|refine qj ?_ Aw.out|refine qj ?_ AL.out)|exact HB.out)) hb);have Bq:=qd.mk (hbox);have n7_:=qd.mk ((by rw [hg];exact(qz (by repeat(first|(with_reducible first|exact HB.out|apply qi|apply qe|apply qh|refine qj ?_ As.out|refine qj ?_ Aw.out|refine qj ?_ AL.out)|exact HB.out))) : w.heap.size≤Ai));have n8_:=qd.mk ((by rw [hg];exact(qz (by repeat(first|(with_reducible first|exact HB.out|apply qi|apply qe|apply qh|refine qj ?_ As.out|refine qj ?_ Aw.out|refine qj ?_ AL.out)|exact HB.out))) : w.heap.size≤Ai));have n9_:=qd.mk ((by rw [hg];exact Nat.ne_of_lt (qT (g:=Ae) (o:=.cells #[.int .i64 a1_0,.int .i64 a1_1,.int .i64 a1_2,.string a1_3,.string a1_4,.string a1_5,.int .i64 a1_6] 87 (0,0)) (by(with_reducible repeat(first|refine qa ?_ _|refine qc ?_|refine qb ?_ _));exact Ab.out)) : Ae≠Ai));have Br:=qd.mk ((by rw [hg];exact Nat.ne_of_gt (qT (g:=Ae) (o:=.cells #[.int .i64 a1_0,.int .i64 a1_1,.int .i64 a1_2,.string a1_3,.string a1_4,.string a1_5,.int .i64 a1_6] 87 (0,0)) (by(with_reducible repeat(first|refine qa ?_ _|refine qc ?_|refine qb ?_ _));exact Ab.out)) : Ai≠Ae));have n11_:=qd.mk ((by rw [hg];exact Nat.ne_of_lt (qT (g:=Ac) (o:=.cells #[.int .i64 0,.int .i64 0,.int .i64 0,.bool false,.string (⟨#[]⟩ : ByteArray),.int .i64 0] 72 (0,0)) (by(with_reducible repeat(first|refine qa ?_ _|refine qc ?_|refine qb ?_ _));exact Ad.out)) : Ac≠Ai));have n12_:=qd.mk ((by rw [hg];exact Nat.ne_of_gt (qT (g:=Ac) (o:=.cells #[.int .i64 0,.int .i64 0,.int .i64 0,.bool false,.string (⟨#[]⟩ : ByteArray),.int .i64 0] 72 (0,0)) (by(with_reducible repeat(first|refine qa ?_ _|refine qc ?_|refine qb ?_ _));exact Ad.out)) : Ai≠Ac));have n13_:=qd.mk ((by rw [hg];exact Nat.ne_of_lt (qT (g:=Ao) (o:=.cells #[.string AF,.string AJ,.int .i64 AH] 50 (0,0)) (by(with_reducible repeat(first|refine qa ?_ _|refine qc ?_|refine qb ?_ _));exact Ah.out)) : Ao≠Ai));have n14_:=qd.mk ((by rw [hg];exact Nat.ne_of_gt (qT (g:=Ao) (o:=.cells #[.string AF,.string AJ,.int .i64 AH] 50 (0,0)) (by(with_reducible repeat(first|refine qa ?_ _|refine qc ?_|refine qb ?_ _));exact Ah.out)) : Ai≠Ao));clear Au;clear Be;clear Ab;clear Ad;clear Ah;clear HB;have Au:=AB;have Be:=AC;have Ab:=AD;have Ad:=AE;have Ah:=AM;have HB:=AP;have Ag:=Bq;have GW595:=n7_;have AW:=n8_;have Ap:=n9_;have AR:=Br;have Af:=n11_;have Aa:=n12_;have Aq:=n13_;have AX:=n14_;clear AB AC AD AE AM AP Bq n7_ n8_ n9_ Br n11_ n12_ n13_ n14_;clear hb hbox hg;have hnb31:=AR.out;have hnc31:=Ap.out;have hnb32:=Aa.out;have hnc32:=Af.out;have hnb33:=AX.out;have hnc33:=Aq.out;have Cg : AU.cell? ⟨Ai,0,none⟩=some (.int .i64 0):=(qf Ag.out 0).trans rfl;have Ch : AU.cell? ⟨Ai,1,none⟩=some (.int .i64 0):=(qf Ag.out 1).trans rfl;have Ci : AU.cell? ⟨Ai,2,none⟩=some (.int .i64 0):=(qf Ag.out 2).trans rfl;have Cj : AU.cell? ⟨Ai,3,none⟩=some (.bool false):=(qf Ag.out 3).trans rfl;have Ck : AU.cell? ⟨Ai,4,none⟩=some (.string (⟨#[]⟩ : ByteArray)):=(qf Ag.out 4).trans rfl;have Cm : AU.cell? ⟨Ai,5,none⟩=some (.int .i64 0):=(qf Ag.out 5).trans rfl;have hfz34_0:=qg Ag.out 0;have hfz34_1:=qg Ag.out 1;have hfz34_2:=qg Ag.out 2;have hfz34_3:=qg Ag.out 3;have hfz34_4:=qg Ag.out 4;have hfz34_5:=qg Ag.out 5))
  (try simp only [Act.put,qSa,qSb,qSc])
  go_cut [41] (fun v41 wc=>∃ (kq : Nat) (Ba : Bool),v41 = .bool Ba∧qd (vv.j0 kq AV Ba a1_0 a1_1 a1_2 a1_3 a1_4 a1_5 a1_6 AF AJ AH At Av Ax Ay AG AK=some (r1,r2,r3,r4,r5,r6,r7))∧qd (kq≤k)∧qd (Kd.R zq 50 wc w.heap.size (fun k_=>k_≠Ao) v587 AV)∧qd (wc.heap[Ae]? = some (.cells #[.int .i64 a1_0,.int .i64 a1_1,.int .i64 a1_2,.string a1_3,.string a1_4,.string a1_5,.int .i64 a1_6] 87 (0,0)))∧qd (wc.heap[Ac]? = some (.cells #[.int .i64 0,.int .i64 0,.int .i64 0,.bool false,.string (⟨#[]⟩ : ByteArray),.int .i64 0] 72 (0,0)))∧qd (wc.heap[Ao]? = some (.cells #[.string AF,.string AJ,.int .i64 AH] 50 (0,0)))∧qd (wc.heap[Ai]? = some (.cells #[.int .i64 At,.int .i64 Av,.int .i64 Ax,.bool Ay,.string AG,.int .i64 AK] 72 (0,0)))∧qd (Below w.heap.size w wc))
  case first=>
   have H:=CK.out;clear CK;by_cases CH : a1_0=2
   ·rw [if_pos CH] at H
    have AY : (a1_0 == 2)=true:=beq_iff_eq.mpr CH;have CJ : (a1_0 != 2)=false:=bne_eq_false_iff_eq.mpr CH;clear CH
    (first|rw [AY]|(simp only [qy,qA];rw [AY])|skip)
    have H':=qd.mk H;clear H;have hnb36:=Aj.out;have hnc36:=Ak.out;have hnb37:=Az.out;have hnc37:=AQ.out;have hnb38:=Ap.out;have hnc38:=AR.out;have Cn : AU.cell? ⟨Ae,0,none⟩=some (.int .i64 a1_0):=(qf Ab.out 0).trans rfl;have Co : AU.cell? ⟨Ae,1,none⟩=some (.int .i64 a1_1):=(qf Ab.out 1).trans rfl;have Cp : AU.cell? ⟨Ae,2,none⟩=some (.int .i64 a1_2):=(qf Ab.out 2).trans rfl;have Cq : AU.cell? ⟨Ae,3,none⟩=some (.string a1_3):=(qf Ab.out 3).trans rfl;have Cr : AU.cell? ⟨Ae,4,none⟩=some (.string a1_4):=(qf Ab.out 4).trans rfl;have Cs : AU.cell? ⟨Ae,5,none⟩=some (.string a1_5):=(qf Ab.out 5).trans rfl;have Ct : AU.cell? ⟨Ae,6,none⟩=some (.int .i64 a1_6):=(qf Ab.out 6).trans rfl;have hfz39_0:=qg Ab.out 0;have hfz39_1:=qg Ab.out 1;have hfz39_2:=qg Ab.out 2;have hfz39_3:=qg Ab.out 3;have hfz39_4:=qg Ab.out 4;have hfz39_5:=qg Ab.out 5;have hfz39_6:=qg Ab.out 6;have hnb40:=Aa.out;have hnc40:=Af.out;have hnb41:=AX.out;have hnc41:=Aq.out;have Cu : AU.cell? ⟨Ai,0,none⟩=some (.int .i64 0):=(qf Ag.out 0).trans rfl;have Cv : AU.cell? ⟨Ai,1,none⟩=some (.int .i64 0):=(qf Ag.out 1).trans rfl;have Cw : AU.cell? ⟨Ai,2,none⟩=some (.int .i64 0):=(qf Ag.out 2).trans rfl;have Cx : AU.cell? ⟨Ai,3,none⟩=some (.bool false):=(qf Ag.out 3).trans rfl;have Cy : AU.cell? ⟨Ai,4,none⟩=some (.string (⟨#[]⟩ : ByteArray)):=(qf Ag.out 4).trans rfl;have Cz : AU.cell? ⟨Ai,5,none⟩=some (.int .i64 0):=(qf Ag.out 5).trans rfl;have hfz42_0:=qg Ag.out 0;have hfz42_1:=qg Ag.out 1;have hfz42_2:=qg Ag.out 2;have hfz42_3:=qg Ag.out 3;have hfz42_4:=qg Ag.out 4;have hfz42_5:=qg Ag.out 5;go_wp2
    go_meet
    case rel=>exact⟨_,((Ax == 0)),(by first|rfl|(simp;done)|(simp [*];done)),H',⟨by first|omega|exact Nat.le_refl _⟩,⟨by(with_reducible repeat(first|apply Kd.qJ|apply Kd.qK|apply Kd.qN));exact Kd.vq (Kd.qG (p:=⟨Ai,5,none⟩) (Kd.qG (p:=⟨Ai,4,none⟩) (Kd.qG (p:=⟨Ai,3,none⟩) (Kd.qG (p:=⟨Ai,2,none⟩) (Kd.qG (p:=⟨Ai,1,none⟩) (Kd.qG (p:=⟨Ai,0,none⟩) (Kd.vF Be.out Ag.out (by decide)) (fun _ hk=>hk.2) (.int .i64 At)) (fun _ hk=>hk.2) (.int .i64 Av)) (fun _ hk=>hk.2) (.int .i64 Ax)) (fun _ hk=>hk.2) (.bool Ay)) (fun _ hk=>hk.2) (.string AG)) (fun _ hk=>hk.2) (.int .i64 AK)) (fun _ hk=>hk.1.2)⟩,⟨by(with_reducible repeat(first|refine qa ?_ _|refine qc ?_|refine qb ?_ _));refine qq ?_ Ap.out _;(with_reducible repeat(first|refine qa ?_ _|refine qc ?_|refine qb ?_ _));refine qq ?_ Ap.out _;(with_reducible repeat(first|refine qa ?_ _|refine qc ?_|refine qb ?_ _));refine qq ?_ Ap.out _;(with_reducible repeat(first|refine qa ?_ _|refine qc ?_|refine qb ?_ _));refine qq ?_ Ap.out _;(with_reducible repeat(first|refine qa ?_ _|refine qc ?_|refine qb ?_ _));refine qq ?_ Ap.out _;(with_reducible repeat(first|refine qa ?_ _|refine qc ?_|refine qb ?_ _));refine qq ?_ Ap.out _;(with_reducible repeat(first|refine qa ?_ _|refine qc ?_|refine qb ?_ _));exact Ab.out⟩,⟨by(with_reducible repeat(first|refine qa ?_ _|refine qc ?_|refine qb ?_ _));refine qq ?_ Af.out _;(with_reducible repeat(first|refine qa ?_ _|refine qc ?_|refine qb ?_ _));refine qq ?_ Af.out _;(with_reducible repeat(first|refine qa ?_ _|refine qc ?_|refine qb ?_ _));refine qq ?_ Af.out _;(with_reducible repeat(first|refine qa ?_ _|refine qc ?_|refine qb ?_ _));refine qq ?_ Af.out _;(with_reducible repeat(first|refine qa ?_ _|refine qc ?_|refine qb ?_ _));refine qq ?_ Af.out _;(with_reducible repeat(first|refine qa ?_ _|refine qc ?_|refine qb ?_ _));refine qq ?_ Af.out _;(with_reducible repeat(first|refine qa ?_ _|refine qc ?_|refine qb ?_ _));exact Ad.out⟩,⟨by(with_reducible repeat(first|refine qa ?_ _|refine qc ?_|refine qb ?_ _));refine qq ?_ Aq.out _;(with_reducible repeat(first|refine qa ?_ _|refine qc ?_|refine qb ?_ _));refine qq ?_ Aq.out _;(with_reducible repeat(first|refine qa ?_ _|refine qc ?_|refine qb ?_ _));refine qq ?_ Aq.out _;(with_reducible repeat(first|refine qa ?_ _|refine qc ?_|refine qb ?_ _));refine qq ?_ Aq.out _;(with_reducible repeat(first|refine qa ?_ _|refine qc ?_|refine qb ?_ _));refine qq ?_ Aq.out _;(with_reducible repeat(first|refine qa ?_ _|refine qc ?_|refine qb ?_ _));refine qq ?_ Aq.out _;(with_reducible repeat(first|refine qa ?_ _|refine qc ?_|refine qb ?_ _));exact Ah.out⟩,⟨by(with_reducible repeat(first|refine qa ?_ _|refine qc ?_|refine qb ?_ _));refine qx (cs:=#[.int .i64 At,.int .i64 Av,.int .i64 Ax,.bool Ay,.string AG,.int .i64 0]) ?_ 5 _ rfl;(with_reducible repeat(first|refine qa ?_ _|refine qc ?_|refine qb ?_ _));refine qx (cs:=#[.int .i64 At,.int .i64 Av,.int .i64 Ax,.bool Ay,.string (⟨#[]⟩ : ByteArray),.int .i64 0]) ?_ 4 _ rfl;(with_reducible repeat(first|refine qa ?_ _|refine qc ?_|refine qb ?_ _));refine qx (cs:=#[.int .i64 At,.int .i64 Av,.int .i64 Ax,.bool false,.string (⟨#[]⟩ : ByteArray),.int .i64 0]) ?_ 3 _ rfl;(with_reducible repeat(first|refine qa ?_ _|refine qc ?_|refine qb ?_ _));refine qx (cs:=#[.int .i64 At,.int .i64 Av,.int .i64 0,.bool false,.string (⟨#[]⟩ : ByteArray),.int .i64 0]) ?_ 2 _ rfl;(with_reducible repeat(first|refine qa ?_ _|refine qc ?_|refine qb ?_ _));refine qx (cs:=#[.int .i64 At,.int .i64 0,.int .i64 0,.bool false,.string (⟨#[]⟩ : ByteArray),.int .i64 0]) ?_ 1 _ rfl;(with_reducible repeat(first|refine qa ?_ _|refine qc ?_|refine qb ?_ _));refine qx (cs:=#[.int .i64 0,.int .i64 0,.int .i64 0,.bool false,.string (⟨#[]⟩ : ByteArray),.int .i64 0]) ?_ 0 _ rfl;(with_reducible repeat(first|refine qa ?_ _|refine qc ?_|refine qb ?_ _));exact Ag.out⟩,⟨by repeat(first|(with_reducible first|exact HB.out|apply qi|apply qe|apply qh|refine qj ?_ As.out|refine qj ?_ Aw.out|refine qj ?_ AL.out|refine qj ?_ AW.out)|exact HB.out)⟩⟩
   ·rw [if_neg CH] at H
    have AY : (a1_0 == 2)=false:=beq_eq_false_iff_ne.mpr CH;have CJ : (a1_0 != 2)=true:=bne_iff_ne.mpr CH
    (first|rw [AY]|(simp only [qy,qA];rw [AY])|skip)
    have H':=qd.mk H;clear H;have hnb43:=Aj.out;have hnc43:=Ak.out;have hnb44:=Az.out;have hnc44:=AQ.out;have hnb45:=Ap.out;have hnc45:=AR.out;have CA : AU.cell? ⟨Ae,0,none⟩=some (.int .i64 a1_0):=(qf Ab.out 0).trans rfl;have CB : AU.cell? ⟨Ae,1,none⟩=some (.int .i64 a1_1):=(qf Ab.out 1).trans rfl;have CC : AU.cell? ⟨Ae,2,none⟩=some (.int .i64 a1_2):=(qf Ab.out 2).trans rfl;have CD : AU.cell? ⟨Ae,3,none⟩=some (.string a1_3):=(qf Ab.out 3).trans rfl;have CE : AU.cell? ⟨Ae,4,none⟩=some (.string a1_4):=(qf Ab.out 4).trans rfl;have CF : AU.cell? ⟨Ae,5,none⟩=some (.string a1_5):=(qf Ab.out 5).trans rfl;have CG : AU.cell? ⟨Ae,6,none⟩=some (.int .i64 a1_6):=(qf Ab.out 6).trans rfl;have hfz46_0:=qg Ab.out 0;have hfz46_1:=qg Ab.out 1;have hfz46_2:=qg Ab.out 2;have hfz46_3:=qg Ab.out 3;have hfz46_4:=qg Ab.out 4;have hfz46_5:=qg Ab.out 5;have hfz46_6:=qg Ab.out 6;go_wp2
    go_meet
    case rel=>exact⟨_,(false),(by first|rfl|(simp;done)|(simp [*];done)),H',⟨by first|omega|exact Nat.le_refl _⟩,⟨by(with_reducible repeat(first|apply Kd.qJ|apply Kd.qK|apply Kd.qN));exact Kd.vq (Kd.qG (p:=⟨Ai,5,none⟩) (Kd.qG (p:=⟨Ai,4,none⟩) (Kd.qG (p:=⟨Ai,3,none⟩) (Kd.qG (p:=⟨Ai,2,none⟩) (Kd.qG (p:=⟨Ai,1,none⟩) (Kd.qG (p:=⟨Ai,0,none⟩) (Kd.vF Be.out Ag.out (by decide)) (fun _ hk=>hk.2) (.int .i64 At)) (fun _ hk=>hk.2) (.int .i64 Av)) (fun _ hk=>hk.2) (.int .i64 Ax)) (fun _ hk=>hk.2) (.bool Ay)) (fun _ hk=>hk.2) (.string AG)) (fun _ hk=>hk.2) (.int .i64 AK)) (fun _ hk=>hk.1.2)⟩,⟨by(with_reducible repeat(first|refine qa ?_ _|refine qc ?_|refine qb ?_ _));refine qq ?_ Ap.out _;(with_reducible repeat(first|refine qa ?_ _|refine qc ?_|refine qb ?_ _));refine qq ?_ Ap.out _;(with_reducible repeat(first|refine qa ?_ _|refine qc ?_|refine qb ?_ _));refine qq ?_ Ap.out _;(with_reducible repeat(first|refine qa ?_ _|refine qc ?_|refine qb ?_ _));refine qq ?_ Ap.out _;(with_reducible repeat(first|refine qa ?_ _|refine qc ?_|refine qb ?_ _));refine qq ?_ Ap.out _;(with_reducible repeat(first|refine qa ?_ _|refine qc ?_|refine qb ?_ _));refine qq ?_ Ap.out _;(with_reducible repeat(first|refine qa ?_ _|refine qc ?_|refine qb ?_ _));exact Ab.out⟩,⟨by(with_reducible repeat(first|refine qa ?_ _|refine qc ?_|refine qb ?_ _));refine qq ?_ Af.out _;(with_reducible repeat(first|refine qa ?_ _|refine qc ?_|refine qb ?_ _));refine qq ?_ Af.out _;(with_reducible repeat(first|refine qa ?_ _|refine qc ?_|refine qb ?_ _));refine qq ?_ Af.out _;(with_reducible repeat(first|refine qa ?_ _|refine qc ?_|refine qb ?_ _));refine qq ?_ Af.out _;(with_reducible repeat(first|refine qa ?_ _|refine qc ?_|refine qb ?_ _));refine qq ?_ Af.out _;(with_reducible repeat(first|refine qa ?_ _|refine qc ?_|refine qb ?_ _));refine qq ?_ Af.out _;(with_reducible repeat(first|refine qa ?_ _|refine qc ?_|refine qb ?_ _));exact Ad.out⟩,⟨by(with_reducible repeat(first|refine qa ?_ _|refine qc ?_|refine qb ?_ _));refine qq ?_ Aq.out _;(with_reducible repeat(first|refine qa ?_ _|refine qc ?_|refine qb ?_ _));refine qq ?_ Aq.out _;(with_reducible repeat(first|refine qa ?_ _|refine qc ?_|refine qb ?_ _));refine qq ?_ Aq.out _;(with_reducible repeat(first|refine qa ?_ _|refine qc ?_|refine qb ?_ _));refine qq ?_ Aq.out _;(with_reducible repeat(first|refine qa ?_ _|refine qc ?_|refine qb ?_ _));refine qq ?_ Aq.out _;(with_reducible repeat(first|refine qa ?_ _|refine qc ?_|refine qb ?_ _));refine qq ?_ Aq.out _;(with_reducible repeat(first|refine qa ?_ _|refine qc ?_|refine qb ?_ _));exact Ah.out⟩,⟨by(with_reducible repeat(first|refine qa ?_ _|refine qc ?_|refine qb ?_ _));refine qx (cs:=#[.int .i64 At,.int .i64 Av,.int .i64 Ax,.bool Ay,.string AG,.int .i64 0]) ?_ 5 _ rfl;(with_reducible repeat(first|refine qa ?_ _|refine qc ?_|refine qb ?_ _));refine qx (cs:=#[.int .i64 At,.int .i64 Av,.int .i64 Ax,.bool Ay,.string (⟨#[]⟩ : ByteArray),.int .i64 0]) ?_ 4 _ rfl;(with_reducible repeat(first|refine qa ?_ _|refine qc ?_|refine qb ?_ _));refine qx (cs:=#[.int .i64 At,.int .i64 Av,.int .i64 Ax,.bool false,.string (⟨#[]⟩ : ByteArray),.int .i64 0]) ?_ 3 _ rfl;(with_reducible repeat(first|refine qa ?_ _|refine qc ?_|refine qb ?_ _));refine qx (cs:=#[.int .i64 At,.int .i64 Av,.int .i64 0,.bool false,.string (⟨#[]⟩ : ByteArray),.int .i64 0]) ?_ 2 _ rfl;(with_reducible repeat(first|refine qa ?_ _|refine qc ?_|refine qb ?_ _));refine qx (cs:=#[.int .i64 At,.int .i64 0,.int .i64 0,.bool false,.string (⟨#[]⟩ : ByteArray),.int .i64 0]) ?_ 1 _ rfl;(with_reducible repeat(first|refine qa ?_ _|refine qc ?_|refine qb ?_ _));refine qx (cs:=#[.int .i64 0,.int .i64 0,.int .i64 0,.bool false,.string (⟨#[]⟩ : ByteArray),.int .i64 0]) ?_ 0 _ rfl;(with_reducible repeat(first|refine qa ?_ _|refine qc ?_|refine qb ?_ _));exact Ag.out⟩,⟨by repeat(first|(with_reducible first|exact HB.out|apply qi|apply qe|apply qh|refine qj ?_ As.out|refine qj ?_ Aw.out|refine qj ?_ AL.out|refine qj ?_ AW.out)|exact HB.out)⟩⟩
  case rest=>
   clear CK;try clear c1
   try clear c2
   try clear p2
   try clear c3
   try clear c4
   try clear c4b0
   try clear c4b1
   try clear c5
   try clear c8
   try clear c9
   try clear c12
   try clear c20
   try clear c25
   try clear c26
   try clear c31
   try clear c32
   try clear c33
   try clear CH
   try clear AY
   try clear CJ
   try clear c36
   try clear c37
   try clear c38
   try clear c40
   try clear c41
   try clear c43
   try clear c44
   try clear c45
   try clear Bx
   try clear Bz
   try clear BA
   try clear BB
   try clear BC
   try clear BD
   try clear BF
   try clear BG
   try clear BH
   try clear BJ
   try clear BK
   try clear BL
   try clear BM
   try clear BN
   try clear BP
   try clear BQ
   try clear BR
   try clear BS
   try clear BT
   try clear BU
   try clear BV
   try clear BW
   try clear BX
   try clear BZ
   try clear Ca
   try clear Cb
   try clear Cc
   try clear Cd
   try clear Ce
   try clear Cf
   try clear Cg
   try clear Ch
   try clear Ci
   try clear Cj
   try clear Ck
   try clear Cm
   try clear Cn
   try clear Co
   try clear Cp
   try clear Cq
   try clear Cr
   try clear Cs
   try clear Ct
   try clear Cu
   try clear Cv
   try clear Cw
   try clear Cx
   try clear Cy
   try clear Cz
   try clear CA
   try clear CB
   try clear CC
   try clear CD
   try clear CE
   try clear CF
   try clear CG
   try clear hfz10_0
   try clear hfz10_1
   try clear hfz10_2
   try clear hfz10_3
   try clear hfz10_4
   try clear hfz10_5
   try clear hfz10_6
   try clear hfz13_0
   try clear hfz13_1
   try clear hfz13_2
   try clear hfz13_3
   try clear hfz13_4
   try clear hfz13_5
   try clear hfz21_0
   try clear hfz21_1
   try clear hfz21_2
   try clear hfz21_3
   try clear hfz21_4
   try clear hfz21_5
   try clear hfz21_6
   try clear hfz27_0
   try clear hfz27_1
   try clear hfz27_2
   try clear hfz28_0
   try clear hfz28_1
   try clear hfz28_2
   try clear hfz28_3
   try clear hfz28_4
   try clear hfz28_5
   try clear hfz28_6
   try clear hfz34_0
   try clear hfz34_1
   try clear hfz34_2
   try clear hfz34_3
   try clear hfz34_4
   try clear hfz34_5
   try clear hfz39_0
   try clear hfz39_1
   try clear hfz39_2
   try clear hfz39_3
   try clear hfz39_4
   try clear hfz39_5
   try clear hfz39_6
   try clear hfz42_0
   try clear hfz42_1
   try clear hfz42_2
   try clear hfz42_3
   try clear hfz42_4
   try clear hfz42_5
   try clear hfz46_0
   try clear hfz46_1
   try clear hfz46_2
   try clear hfz46_3
   try clear hfz46_4
   try clear hfz46_5
   try clear hfz46_6
   obtain⟨kq,Ba,rfl,HA,HJ15,HO_9,Ab,Ad,Ah,Ag,HB⟩:=hcut
   cases kq with
   | zero=>exact absurd HA.out (by simp [vv.j0])
   | succ kj15=>
    have H:=HA.out;clear HA;simp only [vv.j0] at H;by_cases c47 : Ba=true
    ·subst c47
     have H1 : ((zG.f AH).bind fun Bb=>((vW.f kj15 AV a1_3 a1_4 Bb).bind fun Bc=>(some (Bc,At,Av,Ax,Ay,AG,AK))))=some (r1,r2,r3,r4,r5,r6,r7):=by rw [if_pos rfl] at H;exact H
     clear H;have H:=H1;clear H1;replace H:=Option.bind_eq_some_iff.mp H;obtain⟨Bb,A480,H⟩:=H;replace H : ((vW.f kj15 AV a1_3 a1_4 Bb).bind fun Bc=>(some (Bc,At,Av,Ax,Ay,AG,AK)))=some (r1,r2,r3,r4,r5,r6,r7):=H;have A48:=qd.mk A480;clear A480;replace H:=Option.bind_eq_some_iff.mp H;obtain⟨Bc,A490,H⟩:=H;replace H : (some (Bc,At,Av,Ax,Ay,AG,AK))=some (r1,r2,r3,r4,r5,r6,r7):=H;have A49:=qd.mk A490;clear A490;simp only [Option.some.injEq,Prod.mk.injEq] at H;obtain⟨rfl,rfl,rfl,rfl,rfl,rfl,rfl⟩:=H;try go_wp2
     have AB:=qd.mk (Kd.qN HO_9.out);have AC:=qd.mk (qc Ab.out);have AD:=qd.mk (qc Ad.out);have AE:=qd.mk (qc Ah.out);have AM:=qd.mk (qc Ag.out);have AP:=qd.mk (qh HB.out);clear HO_9;clear Ab;clear Ad;clear Ah;clear Ag;clear HB;have HO_9:=AB;have Ab:=AC;have Ad:=AD;have Ah:=AE;have Ag:=AM;have HB:=AP;clear AB AC AD AE AM AP;refine zx (n:=11) (S:=fun w'=>w'.cell? ⟨Ae,0,none⟩=some (.int .i64 a1_0)∧w'.cell? ⟨Ae,1,none⟩=some (.int .i64 a1_1)∧w'.cell? ⟨Ae,2,none⟩=some (.int .i64 a1_2)∧w'.cell? ⟨Ae,3,none⟩=some (.string a1_3)∧w'.cell? ⟨Ae,4,none⟩=some (.string a1_4)∧w'.cell? ⟨Ae,5,none⟩=some (.string a1_5)∧w'.cell? ⟨Ae,6,none⟩=some (.int .i64 a1_6)∧w'.cell? ⟨Ao,0,none⟩=some (.string AF)∧w'.cell? ⟨Ao,1,none⟩=some (.string AJ)∧w'.cell? ⟨Ao,2,none⟩=some (.int .i64 AH)) (ds:=[]) #[false,false,false,false,false,false,false,false,false,false,false] (by kernel_rfl) rfl rfl ⟨(qf Ab.out 0).trans rfl,(qf Ab.out 1).trans rfl,(qf Ab.out 2).trans rfl,(qf Ab.out 3).trans rfl,(qf Ab.out 4).trans rfl,(qf Ab.out 5).trans rfl,(qf Ab.out 6).trans rfl,(qf Ah.out 0).trans rfl,(qf Ah.out 1).trans rfl,(qf Ah.out 2).trans rfl⟩ (fun hHeld=>?_);refine zA vv.tab7 vv.bits7 (fun HT_ HW_=>?_)
     generalize wc.drew=w50 at HO_9 Ab Ad Ah Ag HB hHeld ⊢
     refine qH (i:=0) (N:=some 42) (v:=?_) (a':=?_) #[true,false,false,false,false,false,false,false,false,false,false] rfl rfl (qC HT_.out (by kernel_rfl)) (fun _ _ _ h=>h) (Or.inl ⟨by rfl,?_⟩) ?_ ?_;rotate_left
     ·intro w'
      go_simp
      with_reducible rfl
     rotate_left
     ·simp only [Act.put,qSa,qSb,qSc,qy,qA]
      rfl
     refine qH (i:=1) (N:=some 43) (v:=?_) (a':=?_) #[true,true,false,false,false,false,false,false,false,false,false] rfl rfl (qC HT_.out (by kernel_rfl)) (fun _ _ _ h=>h) (Or.inl ⟨by rfl,?_⟩) ?_ ?_;rotate_left
     ·intro w'
      go_simp
      with_reducible rfl
     rotate_left
     ·simp only [Act.put,qSa,qSb,qSc,qy,qA]
      rfl
     refine qH (i:=3) (N:=some 45) (v:=?_) (a':=?_) #[true,true,false,true,false,false,false,false,false,false,false] rfl rfl (qC HT_.out (by kernel_rfl)) (fun _ _ _ h=>h) (Or.inl ⟨by rfl,?_⟩) ?_ ?_;rotate_left
     ·intro w'
      go_simp
      with_reducible rfl
     rotate_left
     ·simp only [Act.put,qSa,qSb,qSc,qy,qA]
      rfl
     refine qH (i:=5) (N:=some 47) (v:=?_) (a':=?_) #[true,true,false,true,false,true,false,false,false,false,false] rfl rfl (qC HT_.out (by kernel_rfl)) (fun _ _ _ h=>h) (Or.inl ⟨by rfl,?_⟩) ?_ ?_;rotate_left
     ·intro w'
      go_simp
      with_reducible rfl
     rotate_left
     ·simp only [Act.put,qSa,qSb,qSc,qy,qA]
      rfl
     refine zf (i:=2) (N:=some 44) (v:=?_) (a':=?_) #[true,true,true,true,false,true,false,false,false,false,false] rfl rfl (vG HT_.out HW_.out (by kernel_rfl)) (fun _ _ _ h=>h) (Or.inl ⟨by rfl,?_⟩) hHeld ?_ ?_;rotate_left
     ·rintro w' ⟨s0,s1,s2,s3,s4,s5,s6,s7,s8,s9⟩
      go_simp
      with_reducible rfl
     rotate_left
     ·simp only [Act.put,qSa,qSb,qSc,qy,qA]
      rfl
     refine zf (i:=4) (N:=some 46) (v:=?_) (a':=?_) #[true,true,true,true,true,true,false,false,false,false,false] rfl rfl (vG HT_.out HW_.out (by kernel_rfl)) (fun _ _ _ h=>h) (Or.inl ⟨by rfl,?_⟩) hHeld ?_ ?_;rotate_left
     ·rintro w' ⟨s0,s1,s2,s3,s4,s5,s6,s7,s8,s9⟩
      go_simp
      with_reducible rfl
     rotate_left
     ·simp only [Act.put,qSa,qSb,qSc,qy,qA]
      rfl
     refine zf (i:=6) (N:=some 48) (v:=?_) (a':=?_) #[true,true,true,true,true,true,true,false,false,false,false] rfl rfl (vG HT_.out HW_.out (by kernel_rfl)) (fun _ _ _ h=>h) (Or.inl ⟨by rfl,?_⟩) hHeld ?_ ?_;rotate_left
     ·rintro w' ⟨s0,s1,s2,s3,s4,s5,s6,s7,s8,s9⟩
      go_simp
      with_reducible rfl
     rotate_left
     ·simp only [Act.put,qSa,qSb,qSc,qy,qA]
      rfl
     refine zJ (i:=7) (N:=some 49) #[true,true,true,true,true,true,true,true,false,false,false] rfl rfl (zz HT_.out (by kernel_rfl)) (by decide) (fun K hK=>?_);refine goes_ Tryd.func124 (by kernel_rfl) rfl #[.int .i64 AH] (by rfl) rfl rfl (by(try simp only [List.map_toArray,List.map_cons,List.map_nil]);first|done|rfl|(simp only [List.length_drop,List.length_take];rfl)) ?_
     with_reducible refine(zG.calls AH Bb _ A48.out).mono ?_
     rintro e w51 ⟨rfl,hb⟩;refine⟨_,rfl,?_⟩;have AB:=qd.mk (Kd.vr (by(with_reducible repeat(first|apply Kd.qJ|apply Kd.qK|apply Kd.qN));exact HO_9.out) hb);have AC:=qd.mk (qD (g:=Ae) (o:=.cells #[.int .i64 a1_0,.int .i64 a1_1,.int .i64 a1_2,.string a1_3,.string a1_4,.string a1_5,.int .i64 a1_6] 87 (0,0)) (by(with_reducible repeat(first|refine qa ?_ _|refine qc ?_|refine qb ?_ _));exact Ab.out) hb);have AD:=qd.mk (qD (g:=Ac) (o:=.cells #[.int .i64 0,.int .i64 0,.int .i64 0,.bool false,.string (⟨#[]⟩ : ByteArray),.int .i64 0] 72 (0,0)) (by(with_reducible repeat(first|refine qa ?_ _|refine qc ?_|refine qb ?_ _));exact Ad.out) hb);have AE:=qd.mk (qD (g:=Ao) (o:=.cells #[.string AF,.string AJ,.int .i64 AH] 50 (0,0)) (by(with_reducible repeat(first|refine qa ?_ _|refine qc ?_|refine qb ?_ _));exact Ah.out) hb);have AM:=qd.mk (qD (g:=Ai) (o:=.cells #[.int .i64 At,.int .i64 Av,.int .i64 Ax,.bool Ay,.string AG,.int .i64 AK] 72 (0,0)) (by(with_reducible repeat(first|refine qa ?_ _|refine qc ?_|refine qb ?_ _));exact Ag.out) hb);have AP:=qd.mk (qt (by repeat(first|(with_reducible first|exact HB.out|apply qi|apply qe|apply qh|refine qj ?_ As.out|refine qj ?_ Aw.out|refine qj ?_ AL.out|refine qj ?_ AW.out)|exact HB.out)) hb);clear HO_9;clear Ab;clear Ad;clear Ah;clear Ag;clear HB;have HO_9:=AB;have Ab:=AC;have Ad:=AD;have Ah:=AE;have Ag:=AM;have HB:=AP;clear AB AC AD AE AM AP
     (try clear hb)
     (try clear hb2)
     (try clear hk)
     (try clear hi)
     obtain⟨Ao52,co52,eo52⟩:=Kd.vK HO_9.out
     (first|subst eo52|(injection eo52 with f1_ f2_ f3_;have f4_:=f1_.symm;have f5_:=f3_.symm;clear f1_ f2_ f3_;subst f4_;subst f5_))
     refine hK.out _ _ ⟨(qf Ab.out 0).trans rfl,(qf Ab.out 1).trans rfl,(qf Ab.out 2).trans rfl,(qf Ab.out 3).trans rfl,(qf Ab.out 4).trans rfl,(qf Ab.out 5).trans rfl,(qf Ab.out 6).trans rfl,(qf Ah.out 0).trans rfl,(qf Ah.out 1).trans rfl,(qf Ah.out 2).trans rfl⟩ (fun hHeld=>?_);clear hK K;refine norm_ (a':=?_) ?_ ?_;rotate_left
     ·show Act.put _ (some 49) _=_
      simp only [Act.put,qSa,qSb,qSc,qy,qA]
      rfl
     refine qH (i:=8) (N:=some 50) (v:=?_) (a':=?_) #[true,true,true,true,true,true,true,true,true,false,false] rfl rfl (qC HT_.out (by kernel_rfl)) (fun _ _ _ h=>h) (Or.inl ⟨by rfl,?_⟩) ?_ ?_;rotate_left
     ·intro w'
      go_simp
      with_reducible rfl
     rotate_left
     ·simp only [Act.put,qSa,qSb,qSc,qy,qA]
      rfl
     refine zJ (i:=9) (N:=some 51) #[true,true,true,true,true,true,true,true,true,true,false] rfl rfl (zz HT_.out (by kernel_rfl)) (by decide) (fun K hK=>?_);refine goes_ Tryd.func123 (by kernel_rfl) rfl #[.slice Ao52 AV.length co52,.agg #[.string a1_3,.string a1_4,.int .i64 Bb]] (by rfl) rfl rfl (by(try simp only [List.map_toArray,List.map_cons,List.map_nil]);first|done|rfl|(simp only [List.length_drop,List.length_take];rfl)) ?_
     with_reducible refine(vW.calls kj15 (fun k_=>some k_=(.slice Ao52 AV.length co52 : Value).ownBlock) (.slice Ao52 AV.length co52) AV a1_3 a1_4 Bb Bc w _ ?side1 ?side2 A49.out).mono ?_
     (case side1=>repeat(first|(with_reducible first|exact HB.out|apply qi|apply qe|apply qh|refine qj ?_ As.out|refine qj ?_ Aw.out|refine qj ?_ AL.out|refine qj ?_ AW.out)|exact HB.out))
     (case side2=>exact Kd.R_tight rfl HO_9.out)
     rintro e w53 ⟨v598,rfl,ho0,hb,hkp⟩;refine⟨_,rfl,?_⟩;have AB:=qd.mk (zi (by(with_reducible repeat(first|refine qa ?_ _|refine qc ?_|refine qb ?_ _));exact Ab.out) hkp (fun hs_=>(fun e_=>(Kd.zH HO_9.out Ab.out (by decide)) e_) hs_));have AC:=qd.mk (zi (by(with_reducible repeat(first|refine qa ?_ _|refine qc ?_|refine qb ?_ _));exact Ad.out) hkp (fun hs_=>(fun e_=>(Kd.zH HO_9.out Ad.out (by decide)) e_) hs_));have AD:=qd.mk (zi (by(with_reducible repeat(first|refine qa ?_ _|refine qc ?_|refine qb ?_ _));exact Ah.out) hkp (fun hs_=>(fun e_=>(Kd.zS HO_9.out (fun _ hk=>hk)) e_) hs_));have AE:=qd.mk (zi (by(with_reducible repeat(first|refine qa ?_ _|refine qc ?_|refine qb ?_ _));exact Ag.out) hkp (fun hs_=>(fun e_=>(Kd.zH HO_9.out Ag.out (by decide)) e_) hs_));have AM:=qd.mk (Kd.vq (ok':=fun k_=>k_≠Ao) ho0 (fun k_ hk_=>Or.elim hk_ (fun hs_=>fun e_=>(Kd.zS HO_9.out (fun _ hk=>hk)) (by rw [← e_];exact hs_)) (fun hn_=>(Kd.freshB (g:=Ao) (o:=.cells #[.string AF,.string AJ,.int .i64 AH] 50 (0,0)) (by(with_reducible repeat(first|refine qa ?_ _|refine qc ?_|refine qb ?_ _));exact Ah.out) k_ hn_))));have AP:=qd.mk (hb);clear Ab;clear Ad;clear Ah;clear Ag;clear HB;clear HO_9;have Ab:=AB;have Ad:=AC;have Ah:=AD;have Ag:=AE;have Bf:=AM;have HB:=AP;clear AB AC AD AE AM AP
     (try clear hb)
     (try clear hkp)
     (try clear ho0)
     refine hK.out _ _ ⟨(qf Ab.out 0).trans rfl,(qf Ab.out 1).trans rfl,(qf Ab.out 2).trans rfl,(qf Ab.out 3).trans rfl,(qf Ab.out 4).trans rfl,(qf Ab.out 5).trans rfl,(qf Ab.out 6).trans rfl,(qf Ah.out 0).trans rfl,(qf Ah.out 1).trans rfl,(qf Ah.out 2).trans rfl⟩ (fun hHeld=>?_);clear hK K;refine norm_ (a':=?_) ?_ ?_;rotate_left
     ·show Act.put _ (some 51) _=_
      simp only [Act.put,qSa,qSb,qSc,qy,qA]
      rfl
     refine qH (i:=10) (N:=some 9) (v:=?_) (a':=?_) #[true,true,true,true,true,true,true,true,true,true,true] rfl rfl (qC HT_.out (by kernel_rfl)) (fun _ _ _ h=>h) (Or.inl ⟨by rfl,?_⟩) ?_ ?_;rotate_left
     ·intro w'
      go_simp
      with_reducible rfl
     rotate_left
     ·simp only [Act.put,qSa,qSb,qSc,qy,qA]
      rfl
     refine zL (zQ HT_.out (by kernel_rfl)) ?_;try go_wp2
     have AB:=qd.mk (Kd.qN Bf.out);have AC:=qd.mk (qc Ab.out);have AD:=qd.mk (qc Ad.out);have AE:=qd.mk (qc Ah.out);have AM:=qd.mk (qc Ag.out);have AP:=qd.mk (qh HB.out);clear Bf;clear Ab;clear Ad;clear Ah;clear Ag;clear HB;have Bf:=AB;have Ab:=AC;have Ad:=AD;have Ah:=AE;have Ag:=AM;have HB:=AP;clear AB AC AD AE AM AP;refine zx (n:=4) (S:=fun w'=>w'.cell? ⟨Ai,0,none⟩=some (.int .i64 At)∧w'.cell? ⟨Ai,1,none⟩=some (.int .i64 Av)∧w'.cell? ⟨Ai,2,none⟩=some (.int .i64 Ax)∧w'.cell? ⟨Ai,3,none⟩=some (.bool Ay)∧w'.cell? ⟨Ai,4,none⟩=some (.string AG)∧w'.cell? ⟨Ai,5,none⟩=some (.int .i64 AK)) (ds:=[]) #[false,false,false,false] (by kernel_rfl) rfl rfl ⟨(qf Ag.out 0).trans rfl,(qf Ag.out 1).trans rfl,(qf Ag.out 2).trans rfl,(qf Ag.out 3).trans rfl,(qf Ag.out 4).trans rfl,(qf Ag.out 5).trans rfl⟩ (fun hHeld=>?_)
     generalize w53.drew=w54 at Bf Ab Ad Ah Ag HB hHeld ⊢
     refine qH (i:=0) (N:=some 52) (v:=?_) (a':=?_) #[true,false,false,false] rfl rfl (by kernel_rfl) (fun _ _ _ h=>h) (Or.inl ⟨by rfl,?_⟩) ?_ ?_;rotate_left
     ·intro w'
      go_simp
      with_reducible rfl
     rotate_left
     ·simp only [Act.put,qSa,qSb,qSc,qy,qA]
      rfl
     refine qH (i:=2) (N:=some 4) (v:=?_) (a':=?_) #[true,false,true,false] rfl rfl (by kernel_rfl) (fun _ _ _ h=>h) (Or.inl ⟨by rfl,?_⟩) ?_ ?_;rotate_left
     ·intro w'
      go_simp
      with_reducible rfl
     rotate_left
     ·simp only [Act.put,qSa,qSb,qSc,qy,qA]
      rfl
     refine zf (i:=1) (N:=some 53) (v:=?_) (a':=?_) #[true,true,true,false] rfl rfl (by kernel_rfl) (fun _ _ _ h=>h) (Or.inl ⟨by rfl,?_⟩) hHeld ?_ ?_;rotate_left
     ·rintro w' ⟨s0,s1,s2,s3,s4,s5⟩
      go_simp
      with_reducible rfl
     rotate_left
     ·simp only [Act.put,qSa,qSb,qSc,qy,qA]
      rfl
     refine zJ (i:=3) (N:=none) #[true,true,true,true] rfl rfl (by kernel_rfl) (by decide) (fun K hK=>?_);have hs55 : w54.cell? ⟨Ac,0,none⟩=some (.int .i64 0):=(qf Ad.out 0).trans rfl;have hfs55:=qg Ad.out 0;have hns55_0:=Aj.out;have hns55_2:=Ar.out;have hns55_3:=Aa.out;have hms55_0:=Ak.out;have hms55_2:=Am.out;have hms55_3:=Af.out;have hs56 : w54.cell? ⟨Ac,1,none⟩=some (.int .i64 0):=(qf Ad.out 1).trans rfl;have hfs56:=qg Ad.out 1;have hns56_0:=Aj.out;have hns56_2:=Ar.out;have hns56_3:=Aa.out;have hms56_0:=Ak.out;have hms56_2:=Am.out;have hms56_3:=Af.out;have hs57 : w54.cell? ⟨Ac,2,none⟩=some (.int .i64 0):=(qf Ad.out 2).trans rfl;have hfs57:=qg Ad.out 2;have hns57_0:=Aj.out;have hns57_2:=Ar.out;have hns57_3:=Aa.out;have hms57_0:=Ak.out;have hms57_2:=Am.out;have hms57_3:=Af.out;have hs58 : w54.cell? ⟨Ac,3,none⟩=some (.bool false):=(qf Ad.out 3).trans rfl;have hfs58:=qg Ad.out 3;have hns58_0:=Aj.out;have hns58_2:=Ar.out;have hns58_3:=Aa.out;have hms58_0:=Ak.out;have hms58_2:=Am.out;have hms58_3:=Af.out;have hs59 : w54.cell? ⟨Ac,4,none⟩=some (.string (⟨#[]⟩ : ByteArray)):=(qf Ad.out 4).trans rfl;have hfs59:=qg Ad.out 4;have hns59_0:=Aj.out;have hns59_2:=Ar.out;have hns59_3:=Aa.out;have hms59_0:=Ak.out;have hms59_2:=Am.out;have hms59_3:=Af.out;have hs60 : w54.cell? ⟨Ac,5,none⟩=some (.int .i64 0):=(qf Ad.out 5).trans rfl;have hfs60:=qg Ad.out 5;have hns60_0:=Aj.out;have hns60_2:=Ar.out;have hns60_3:=Aa.out;have hms60_0:=Ak.out;have hms60_2:=Am.out;have hms60_3:=Af.out;refine zR (w1:=?_) (by rfl) rfl ?_ ?_;rotate_left
     ·go_simp
      rfl
     refine hK.out _ _ ⟨((qk (p:=⟨Ac,_,none⟩) Aa.out _).trans (((qk (p:=⟨Ac,_,none⟩) Aa.out _).trans (((qk (p:=⟨Ac,_,none⟩) Aa.out _).trans (((qk (p:=⟨Ac,_,none⟩) Aa.out _).trans (((qk (p:=⟨Ac,_,none⟩) Aa.out _).trans (((qk (p:=⟨Ac,_,none⟩) Aa.out _).trans (hHeld.1)))))))))))),((qk (p:=⟨Ac,_,none⟩) Aa.out _).trans (((qk (p:=⟨Ac,_,none⟩) Aa.out _).trans (((qk (p:=⟨Ac,_,none⟩) Aa.out _).trans (((qk (p:=⟨Ac,_,none⟩) Aa.out _).trans (((qk (p:=⟨Ac,_,none⟩) Aa.out _).trans (((qk (p:=⟨Ac,_,none⟩) Aa.out _).trans (hHeld.2.1)))))))))))),((qk (p:=⟨Ac,_,none⟩) Aa.out _).trans (((qk (p:=⟨Ac,_,none⟩) Aa.out _).trans (((qk (p:=⟨Ac,_,none⟩) Aa.out _).trans (((qk (p:=⟨Ac,_,none⟩) Aa.out _).trans (((qk (p:=⟨Ac,_,none⟩) Aa.out _).trans (((qk (p:=⟨Ac,_,none⟩) Aa.out _).trans (hHeld.2.2.1)))))))))))),((qk (p:=⟨Ac,_,none⟩) Aa.out _).trans (((qk (p:=⟨Ac,_,none⟩) Aa.out _).trans (((qk (p:=⟨Ac,_,none⟩) Aa.out _).trans (((qk (p:=⟨Ac,_,none⟩) Aa.out _).trans (((qk (p:=⟨Ac,_,none⟩) Aa.out _).trans (((qk (p:=⟨Ac,_,none⟩) Aa.out _).trans (hHeld.2.2.2.1)))))))))))),((qk (p:=⟨Ac,_,none⟩) Aa.out _).trans (((qk (p:=⟨Ac,_,none⟩) Aa.out _).trans (((qk (p:=⟨Ac,_,none⟩) Aa.out _).trans (((qk (p:=⟨Ac,_,none⟩) Aa.out _).trans (((qk (p:=⟨Ac,_,none⟩) Aa.out _).trans (((qk (p:=⟨Ac,_,none⟩) Aa.out _).trans (hHeld.2.2.2.2.1)))))))))))),((qk (p:=⟨Ac,_,none⟩) Aa.out _).trans (((qk (p:=⟨Ac,_,none⟩) Aa.out _).trans (((qk (p:=⟨Ac,_,none⟩) Aa.out _).trans (((qk (p:=⟨Ac,_,none⟩) Aa.out _).trans (((qk (p:=⟨Ac,_,none⟩) Aa.out _).trans (((qk (p:=⟨Ac,_,none⟩) Aa.out _).trans (hHeld.2.2.2.2.2))))))))))))⟩ (fun hHeld=>?_);clear hK K;refine zL (by kernel_rfl) ?_;try go_wp2
     refine bodyPost_ret (zD rfl _ _ Ac 72 #[.int .i64 At,.int .i64 Av,.int .i64 Ax,.bool Ay,.string AG,.int .i64 AK] (0,0) _ rfl (by(with_reducible repeat(first|refine qa ?_ _|refine qc ?_|refine qb ?_ _));refine qx (cs:=#[.int .i64 At,.int .i64 Av,.int .i64 Ax,.bool Ay,.string AG,.int .i64 0]) ?_ 5 _ rfl;(with_reducible repeat(first|refine qa ?_ _|refine qc ?_|refine qb ?_ _));refine qx (cs:=#[.int .i64 At,.int .i64 Av,.int .i64 Ax,.bool Ay,.string (⟨#[]⟩ : ByteArray),.int .i64 0]) ?_ 4 _ rfl;(with_reducible repeat(first|refine qa ?_ _|refine qc ?_|refine qb ?_ _));refine qx (cs:=#[.int .i64 At,.int .i64 Av,.int .i64 Ax,.bool false,.string (⟨#[]⟩ : ByteArray),.int .i64 0]) ?_ 3 _ rfl;(with_reducible repeat(first|refine qa ?_ _|refine qc ?_|refine qb ?_ _));refine qx (cs:=#[.int .i64 At,.int .i64 Av,.int .i64 0,.bool false,.string (⟨#[]⟩ : ByteArray),.int .i64 0]) ?_ 2 _ rfl;(with_reducible repeat(first|refine qa ?_ _|refine qc ?_|refine qb ?_ _));refine qx (cs:=#[.int .i64 At,.int .i64 0,.int .i64 0,.bool false,.string (⟨#[]⟩ : ByteArray),.int .i64 0]) ?_ 1 _ rfl;(with_reducible repeat(first|refine qa ?_ _|refine qc ?_|refine qb ?_ _));refine qx (cs:=#[.int .i64 0,.int .i64 0,.int .i64 0,.bool false,.string (⟨#[]⟩ : ByteArray),.int .i64 0]) ?_ 0 _ rfl;(with_reducible repeat(first|refine qa ?_ _|refine qc ?_|refine qb ?_ _));exact Ad.out) Tryd.underlying72 rfl (by kernel_rfl)) rfl ?_;exact⟨_,by first|rfl|(simp [qQ,qP] <;> rfl)|(simp [*,qQ,qP] <;> rfl),by(with_reducible repeat(first|apply Kd.qJ|apply Kd.qK|apply Kd.qN));exact Kd.vq (Kd.qG (p:=⟨Ac,5,none⟩) (Kd.qG (p:=⟨Ac,4,none⟩) (Kd.qG (p:=⟨Ac,3,none⟩) (Kd.qG (p:=⟨Ac,2,none⟩) (Kd.qG (p:=⟨Ac,1,none⟩) (Kd.qG (p:=⟨Ac,0,none⟩) (Kd.vF Bf.out Ad.out (by decide)) (fun _ hk=>hk.2) (.int .i64 At)) (fun _ hk=>hk.2) (.int .i64 Av)) (fun _ hk=>hk.2) (.int .i64 Ax)) (fun _ hk=>hk.2) (.bool Ay)) (fun _ hk=>hk.2) (.string AG)) (fun _ hk=>hk.2) (.int .i64 AK)) (fun _ hk=>trivial),by repeat(first|(with_reducible first|exact HB.out|apply qi|apply qe|apply qh|refine qj ?_ As.out|refine qj ?_ Aw.out|refine qj ?_ AL.out|refine qj ?_ AW.out)|exact HB.out)⟩
    ·replace c47:=Bool.eq_false_iff.mpr c47
     subst c47;have H1 : (some (AV,At,Av,Ax,Ay,AG,AK))=some (r1,r2,r3,r4,r5,r6,r7):=by rw [if_neg (show ¬ (false=true) by decide)] at H;exact H
     clear H;have H:=H1;clear H1;simp only [Option.some.injEq,Prod.mk.injEq] at H;obtain⟨rfl,rfl,rfl,rfl,rfl,rfl,rfl⟩:=H;try go_wp2
     have AB:=qd.mk (Kd.qN HO_9.out);have AC:=qd.mk (qc Ab.out);have AD:=qd.mk (qc Ad.out);have AE:=qd.mk (qc Ah.out);have AM:=qd.mk (qc Ag.out);have AP:=qd.mk (qh HB.out);clear HO_9;clear Ab;clear Ad;clear Ah;clear Ag;clear HB;have HO_9:=AB;have Ab:=AC;have Ad:=AD;have Ah:=AE;have Ag:=AM;have HB:=AP;clear AB AC AD AE AM AP;refine zx (n:=4) (S:=fun w'=>w'.cell? ⟨Ai,0,none⟩=some (.int .i64 At)∧w'.cell? ⟨Ai,1,none⟩=some (.int .i64 Av)∧w'.cell? ⟨Ai,2,none⟩=some (.int .i64 Ax)∧w'.cell? ⟨Ai,3,none⟩=some (.bool Ay)∧w'.cell? ⟨Ai,4,none⟩=some (.string AG)∧w'.cell? ⟨Ai,5,none⟩=some (.int .i64 AK)) (ds:=[]) #[false,false,false,false] (by kernel_rfl) rfl rfl ⟨(qf Ag.out 0).trans rfl,(qf Ag.out 1).trans rfl,(qf Ag.out 2).trans rfl,(qf Ag.out 3).trans rfl,(qf Ag.out 4).trans rfl,(qf Ag.out 5).trans rfl⟩ (fun hHeld=>?_)
     generalize wc.drew=w61 at HO_9 Ab Ad Ah Ag HB hHeld ⊢
     refine qH (i:=0) (N:=some 52) (v:=?_) (a':=?_) #[true,false,false,false] rfl rfl (by kernel_rfl) (fun _ _ _ h=>h) (Or.inl ⟨by rfl,?_⟩) ?_ ?_;rotate_left
     ·intro w'
      go_simp
      with_reducible rfl
     rotate_left
     ·simp only [Act.put,qSa,qSb,qSc,qy,qA]
      rfl
     refine qH (i:=2) (N:=some 4) (v:=?_) (a':=?_) #[true,false,true,false] rfl rfl (by kernel_rfl) (fun _ _ _ h=>h) (Or.inl ⟨by rfl,?_⟩) ?_ ?_;rotate_left
     ·intro w'
      go_simp
      with_reducible rfl
     rotate_left
     ·simp only [Act.put,qSa,qSb,qSc,qy,qA]
      rfl
     refine zf (i:=1) (N:=some 53) (v:=?_) (a':=?_) #[true,true,true,false] rfl rfl (by kernel_rfl) (fun _ _ _ h=>h) (Or.inl ⟨by rfl,?_⟩) hHeld ?_ ?_;rotate_left
     ·rintro w' ⟨s0,s1,s2,s3,s4,s5⟩
      go_simp
      with_reducible rfl
     rotate_left
     ·simp only [Act.put,qSa,qSb,qSc,qy,qA]
      rfl
     refine zJ (i:=3) (N:=none) #[true,true,true,true] rfl rfl (by kernel_rfl) (by decide) (fun K hK=>?_);have hs62 : w61.cell? ⟨Ac,0,none⟩=some (.int .i64 0):=(qf Ad.out 0).trans rfl;have hfs62:=qg Ad.out 0;have hns62_0:=Aj.out;have hns62_2:=Ar.out;have hns62_3:=Aa.out;have hms62_0:=Ak.out;have hms62_2:=Am.out;have hms62_3:=Af.out;have hs63 : w61.cell? ⟨Ac,1,none⟩=some (.int .i64 0):=(qf Ad.out 1).trans rfl;have hfs63:=qg Ad.out 1;have hns63_0:=Aj.out;have hns63_2:=Ar.out;have hns63_3:=Aa.out;have hms63_0:=Ak.out;have hms63_2:=Am.out;have hms63_3:=Af.out;have hs64 : w61.cell? ⟨Ac,2,none⟩=some (.int .i64 0):=(qf Ad.out 2).trans rfl;have hfs64:=qg Ad.out 2;have hns64_0:=Aj.out;have hns64_2:=Ar.out;have hns64_3:=Aa.out;have hms64_0:=Ak.out;have hms64_2:=Am.out;have hms64_3:=Af.out;have hs65 : w61.cell? ⟨Ac,3,none⟩=some (.bool false):=(qf Ad.out 3).trans rfl;have hfs65:=qg Ad.out 3;have hns65_0:=Aj.out;have hns65_2:=Ar.out;have hns65_3:=Aa.out;have hms65_0:=Ak.out;have hms65_2:=Am.out;have hms65_3:=Af.out;have hs66 : w61.cell? ⟨Ac,4,none⟩=some (.string (⟨#[]⟩ : ByteArray)):=(qf Ad.out 4).trans rfl;have hfs66:=qg Ad.out 4;have hns66_0:=Aj.out;have hns66_2:=Ar.out;have hns66_3:=Aa.out;have hms66_0:=Ak.out;have hms66_2:=Am.out;have hms66_3:=Af.out;have hs67 : w61.cell? ⟨Ac,5,none⟩=some (.int .i64 0):=(qf Ad.out 5).trans rfl;have hfs67:=qg Ad.out 5;have hns67_0:=Aj.out;have hns67_2:=Ar.out;have hns67_3:=Aa.out;have hms67_0:=Ak.out;have hms67_2:=Am.out;have hms67_3:=Af.out;refine zR (w1:=?_) (by rfl) rfl ?_ ?_;rotate_left
     ·go_simp
      rfl
     refine hK.out _ _ ⟨((qk (p:=⟨Ac,_,none⟩) Aa.out _).trans (((qk (p:=⟨Ac,_,none⟩) Aa.out _).trans (((qk (p:=⟨Ac,_,none⟩) Aa.out _).trans (((qk (p:=⟨Ac,_,none⟩) Aa.out _).trans (((qk (p:=⟨Ac,_,none⟩) Aa.out _).trans (((qk (p:=⟨Ac,_,none⟩) Aa.out _).trans (hHeld.1)))))))))))),((qk (p:=⟨Ac,_,none⟩) Aa.out _).trans (((qk (p:=⟨Ac,_,none⟩) Aa.out _).trans (((qk (p:=⟨Ac,_,none⟩) Aa.out _).trans (((qk (p:=⟨Ac,_,none⟩) Aa.out _).trans (((qk (p:=⟨Ac,_,none⟩) Aa.out _).trans (((qk (p:=⟨Ac,_,none⟩) Aa.out _).trans (hHeld.2.1)))))))))))),((qk (p:=⟨Ac,_,none⟩) Aa.out _).trans (((qk (p:=⟨Ac,_,none⟩) Aa.out _).trans (((qk (p:=⟨Ac,_,none⟩) Aa.out _).trans (((qk (p:=⟨Ac,_,none⟩) Aa.out _).trans (((qk (p:=⟨Ac,_,none⟩) Aa.out _).trans (((qk (p:=⟨Ac,_,none⟩) Aa.out _).trans (hHeld.2.2.1)))))))))))),((qk (p:=⟨Ac,_,none⟩) Aa.out _).trans (((qk (p:=⟨Ac,_,none⟩) Aa.out _).trans (((qk (p:=⟨Ac,_,none⟩) Aa.out _).trans (((qk (p:=⟨Ac,_,none⟩) Aa.out _).trans (((qk (p:=⟨Ac,_,none⟩) Aa.out _).trans (((qk (p:=⟨Ac,_,none⟩) Aa.out _).trans (hHeld.2.2.2.1)))))))))))),((qk (p:=⟨Ac,_,none⟩) Aa.out _).trans (((qk (p:=⟨Ac,_,none⟩) Aa.out _).trans (((qk (p:=⟨Ac,_,none⟩) Aa.out _).trans (((qk (p:=⟨Ac,_,none⟩) Aa.out _).trans (((qk (p:=⟨Ac,_,none⟩) Aa.out _).trans (((qk (p:=⟨Ac,_,none⟩) Aa.out _).trans (hHeld.2.2.2.2.1)))))))))))),((qk (p:=⟨Ac,_,none⟩) Aa.out _).trans (((qk (p:=⟨Ac,_,none⟩) Aa.out _).trans (((qk (p:=⟨Ac,_,none⟩) Aa.out _).trans (((qk (p:=⟨Ac,_,none⟩) Aa.out _).trans (((qk (p:=⟨Ac,_,none⟩) Aa.out _).trans (((qk (p:=⟨Ac,_,none⟩) Aa.out _).trans (hHeld.2.2.2.2.2))))))))))))⟩ (fun hHeld=>?_);clear hK K;refine zL (by kernel_rfl) ?_;try go_wp2
     refine bodyPost_ret (zD rfl _ _ Ac 72 #[.int .i64 At,.int .i64 Av,.int .i64 Ax,.bool Ay,.string AG,.int .i64 AK] (0,0) _ rfl (by(with_reducible repeat(first|refine qa ?_ _|refine qc ?_|refine qb ?_ _));refine qx (cs:=#[.int .i64 At,.int .i64 Av,.int .i64 Ax,.bool Ay,.string AG,.int .i64 0]) ?_ 5 _ rfl;(with_reducible repeat(first|refine qa ?_ _|refine qc ?_|refine qb ?_ _));refine qx (cs:=#[.int .i64 At,.int .i64 Av,.int .i64 Ax,.bool Ay,.string (⟨#[]⟩ : ByteArray),.int .i64 0]) ?_ 4 _ rfl;(with_reducible repeat(first|refine qa ?_ _|refine qc ?_|refine qb ?_ _));refine qx (cs:=#[.int .i64 At,.int .i64 Av,.int .i64 Ax,.bool false,.string (⟨#[]⟩ : ByteArray),.int .i64 0]) ?_ 3 _ rfl;(with_reducible repeat(first|refine qa ?_ _|refine qc ?_|refine qb ?_ _));refine qx (cs:=#[.int .i64 At,.int .i64 Av,.int .i64 0,.bool false,.string (⟨#[]⟩ : ByteArray),.int .i64 0]) ?_ 2 _ rfl;(with_reducible repeat(first|refine qa ?_ _|refine qc ?_|refine qb ?_ _));refine qx (cs:=#[.int .i64 At,.int .i64 0,.int .i64 0,.bool false,.string (⟨#[]⟩ : ByteArray),.int .i64 0]) ?_ 1 _ rfl;(with_reducible repeat(first|refine qa ?_ _|refine qc ?_|refine qb ?_ _));refine qx (cs:=#[.int .i64 0,.int .i64 0,.int .i64 0,.bool false,.string (⟨#[]⟩ : ByteArray),.int .i64 0]) ?_ 0 _ rfl;(with_reducible repeat(first|refine qa ?_ _|refine qc ?_|refine qb ?_ _));exact Ad.out) Tryd.underlying72 rfl (by kernel_rfl)) rfl ?_;exact⟨_,by first|rfl|(simp [qQ,qP] <;> rfl)|(simp [*,qQ,qP] <;> rfl),by(with_reducible repeat(first|apply Kd.qJ|apply Kd.qK|apply Kd.qN));exact Kd.vq (Kd.qG (p:=⟨Ac,5,none⟩) (Kd.qG (p:=⟨Ac,4,none⟩) (Kd.qG (p:=⟨Ac,3,none⟩) (Kd.qG (p:=⟨Ac,2,none⟩) (Kd.qG (p:=⟨Ac,1,none⟩) (Kd.qG (p:=⟨Ac,0,none⟩) (Kd.vF HO_9.out Ad.out (by decide)) (fun _ hk=>hk.2) (.int .i64 At)) (fun _ hk=>hk.2) (.int .i64 Av)) (fun _ hk=>hk.2) (.int .i64 Ax)) (fun _ hk=>hk.2) (.bool Ay)) (fun _ hk=>hk.2) (.string AG)) (fun _ hk=>hk.2) (.int .i64 AK)) (fun _ hk=>trivial),by repeat(first|(with_reducible first|exact HB.out|apply qi|apply qe|apply qh|refine qj ?_ As.out|refine qj ?_ Aw.out|refine qj ?_ AL.out|refine qj ?_ AW.out)|exact HB.out)⟩
end Go.Proofs.YtalpmbeddldfoaaDoor.PA
