import Derived.Test.YtalpmbeddldfoaaDoorF0
import Derived.Test.YtalpmbeddldfoaaDoorFChangeoverref09Check
import Derived.Test.YtalpmbeddldfoaaDoorPKv1
namespace Go.Proofs.YtalpmbeddldfoaaDoor.PA
open Go.RowKit Go.Proofs.YtalpmbeddldfoaaDoor.Hand Go.Proofs.YtalpmbeddldfoaaDoorW.PrintWords Go.Proofs.YtalpmbeddldfoaaDoorW.PrintLast Go.Proofs.YtalpmbeddldfoaaDoorW.PrintMore
attribute [local go_sem] vW vV zc zb vG vF vU vT
attribute [local go_sem high] za zd ze
set_option linter.unusedVariables false
set_option linter.unusedSimpArgs false
def qA.l0 : Nat→List (zo)→Int→Option (Bool)
 | 0,_,_=>none
 | k + 1,x0,x3=>if x3<(x0.length : Int) then(if 0≤x3 then(if((qf x0 x3).f2.f0)=((qf x0 x3).f0) then(if((qf x0 x3).f2.f1)=((qf x0 x3).f1) then((qF.f k ((qf x0 x3).f2.f0) ((qf x0 x3).f2.f1) ((qf x0 x3).f2.f2) ((qf x0 x3).f2.f3) ((qf x0 x3).f2.f4) ((qf x0 x3).f2.f5)).bind fun AW=>(if AW=0 then(qA.l0 k x0 (wrap64 (x3 + 1))) else(some false))) else(some false)) else(some false)) else(none)) else((qV.f k x0).bind fun AY=>(some AY))
def qA.f(k : Nat)(l0 : List (zo)) : Option (Bool):=qA.l0 k l0 0
theorem qA.mono_l : ∀ k,(∀ y0 y1,qR (qA.l0 k y0 y1) (qA.l0 (k + 1) y0 y1))
 | 0=>fun _ _ r h=>by simp [qA.l0] at h
 | k + 1=>by
  have ih0:=qA.mono_l k
  ·intro y0 y1
   unfold qA.l0
   repeat' first
   | (with_reducible exact ih0 _ _)
   | (with_reducible exact qF.mono _ _ _ _ _ _ _)
   | (with_reducible exact qV.mono _ _)
   | (with_reducible exact qR.refl _)
   | (with_reducible exact qR.none _)
   | (with_reducible refine qR.ite ?_ ?_)
   | (with_reducible refine qR.bind ?_ (fun _=>?_))
   | exact ih0 _ _
   | exact qF.mono _ _ _ _ _ _ _
   | exact qV.mono _ _
   | exact qR.none _
   | refine qR.ite ?_ ?_
   | refine qR.bind ?_ (fun _=>?_)
theorem qA.mono : ∀ a0 k,qR (qA.f k a0) (qA.f (k + 1) a0):=by
 intro a0 k;have ih0:=qA.mono_l k;unfold qA.f
 repeat' first
  | (with_reducible exact ih0 _ _)
  | (with_reducible exact qF.mono _ _ _ _ _ _ _)
  | (with_reducible exact qV.mono _ _)
  | (with_reducible exact qR.refl _)
  | (with_reducible exact qR.none _)
  | (with_reducible refine qR.ite ?_ ?_)
  | (with_reducible refine qR.bind ?_ (fun _=>?_))
  | exact ih0 _ _
  | exact qF.mono _ _ _ _ _ _ _
  | exact qV.mono _ _
  | exact qR.none _
  | refine qR.ite ?_ ?_
  | refine qR.bind ?_ (fun _=>?_)
def qA.T4 : Bool × List (List Nat × List Nat):=(true,[([],[]),([],[]),([0,1],[0,1]),([2],[2]),([3],[3]),([4],[4]),([],[]),([],[]),([6,7],[6,7]),([8],[8]),([9],[9]),([5,10],[5,10]),([11],[11]),([12],[12]),([12],[12]),([13,14,12],[12,13,14]),([15,12],[12,15]),([16,12],[12,16]),([17,12],[12,17]),([12],[12]),([12],[12]),([19,20,12],[12,19,20]),([21,12],[12,21]),([22,12],[12,22]),([18,23,12],[12,18,23]),([12,24],[12,24]),([25,12],[25]),([26],[26]),([26],[26]),([27,28,26],[26,27,28]),([29,26],[26,29]),([30,26],[26,30]),([31,26,26],[26,31]),([32,26],[26,32]),([26,33],[26,33])])
def qA.B4 : List Nat:=[0,0,3,7,15,31,0,0,192,448,960,2047,4095,8191,8191,32767,65535,131071,262143,8191,8191,1581055,3678207,7872511,16777215,33554431,67108863,134217727,134217727,536870911,1073741823,2147483647,4294967295,8589934591,17179869183]
theorem qA.tab4 : jA .any (opsOf Tryd.f44 4)=qA.T4:=by kernel_rfl
theorem qA.bits4 : Qd qA.T4.2 qA.B4=true:=by kernel_rfl
set_option maxHeartbeats 8000000 in
set_option maxRecDepth 100000 in
theorem qA.calls(k : Nat)(A0 : Option Addr)(c0 : Nat)(l0 : List (zo))(r : Bool)(w : World)(hr0 : Kd.C jW w A0 l0.length l0)(hc0 : l0.length≤c0)(h : qA.f k l0=some r) :
 Calls Tryd.prog 44 #[.slice A0 l0.length c0] w fun e w'=>e = .returned (.bool r)∧Below w.heap.size w w':=by
 have hu72:=Tryd.underlying72;have HR0:=qb.mk hr0;have HC0:=qb.mk hc0;clear hr0 hc0;have HB:=qb.mk (Below.refl w.heap.size w);have H : (qA.l0 k l0 0)=some r:=h;clear h;have H':=qb.mk H;clear H;go_enter Tryd.func44,Tryd.ntmps44
 go_wp2
 go_loopg [3] k (fun kq v3 w'=>∃ (Aa : Int),v3 = .int .i64 Aa∧qb (qA.l0 kq l0 Aa=some r)∧qb (kq≤k)∧qb (Below w.heap.size w w'))
 case atStart=>exact⟨(0),(by first|rfl|(simp;done)|(simp [*];done)),H',⟨Nat.le_refl _⟩,⟨by repeat(first|(with_reducible first|exact HB.out|apply qd|apply qa|apply qc)|exact HB.out)⟩⟩
 case round=>
  clear H';obtain⟨Aa,rfl,HA,HK1,HB⟩:=hrel
  cases gk with
  | zero=>exact absurd HA.out (by simp [qA.l0])
  | succ k1=>
   have H:=HA.out;clear HA;simp only [qA.l0] at H;by_cases c2 : Aa<(l0.length : Int)
   ·rw [if_pos c2] at H
    have c2b0 : decide (Aa<(l0.length : Int))=true:=decide_eq_true c2;clear c2;by_cases c3 : 0≤Aa
    ·rw [if_pos c3] at H
     have c3b0 : decide (0≤Aa)=true:=decide_eq_true c3;clear c3;by_cases c4 : ((qf l0 Aa).f2.f0)=((qf l0 Aa).f0)
     ·rw [if_pos c4] at H
      have c4b0 : (((qf l0 Aa).f2.f0) == ((qf l0 Aa).f0))=true:=beq_iff_eq.mpr c4;have c4b1 : (((qf l0 Aa).f2.f0) != ((qf l0 Aa).f0))=false:=bne_eq_false_iff_eq.mpr c4;clear c4;by_cases c5 : ((qf l0 Aa).f2.f1)=((qf l0 Aa).f1)
      ·rw [if_pos c5] at H
       have c5b0 : (((qf l0 Aa).f2.f1) == ((qf l0 Aa).f1))=true:=beq_iff_eq.mpr c5;have c5b1 : (((qf l0 Aa).f2.f1) != ((qf l0 Aa).f1))=false:=bne_eq_false_iff_eq.mpr c5;clear c5;replace H:=Option.bind_eq_some_iff.mp H;obtain⟨AW,A60,H⟩:=H;replace H : (if AW=0 then(qA.l0 k1 l0 (wrap64 (Aa + 1))) else(some false))=some r:=H;have A6:=qb.mk A60;clear A60;by_cases c7 : AW=0
       ·rw [if_pos c7] at H
        have c7b0 : (AW == 0)=true:=beq_iff_eq.mpr c7;have c7b1 : (AW != 0)=false:=bne_eq_false_iff_eq.mpr c7;clear c7;have H':=qb.mk H;clear H;try go_wp2
        have AX:=qb.mk (qc HB.out);clear HB;have HB:=AX;clear AX;have p250 : 0≤(Aa : Int):=of_decide_eq_true (by first|(with_reducible assumption)|assumption);have q250 : Aa<(l0.length : Int):=of_decide_eq_true (by first|(with_reducible assumption)|assumption);obtain⟨ad250,e250,Ab,Ac,Ad,Ae,Af,Ag,Ah,Ai⟩:=zp HR0.out Aa p250 q250;have hw250_7:=Ai;have hw250_6:=Ah;have hw250_5:=Ag;have hw250_4:=Af;have hw250_3:=Ae;have hw250_2:=Ad;have hw250_1:=Ac;have hw250_0:=Ab
        cases e250
        replace Ab:=(HB.out.cell (World.block_lt_of_cell? w _ Ab)).trans Ab;replace Ac:=(HB.out.cell (World.block_lt_of_cell? w _ Ac)).trans Ac;replace Ad:=(HB.out.cell (World.block_lt_of_cell? w _ Ad)).trans Ad;replace Ae:=(HB.out.cell (World.block_lt_of_cell? w _ Ae)).trans Ae;replace Af:=(HB.out.cell (World.block_lt_of_cell? w _ Af)).trans Af;replace Ag:=(HB.out.cell (World.block_lt_of_cell? w _ Ag)).trans Ag;replace Ah:=(HB.out.cell (World.block_lt_of_cell? w _ Ah)).trans Ah;replace Ai:=(HB.out.cell (World.block_lt_of_cell? w _ Ai)).trans Ai;replace p250:=eq_true p250;replace q250:=eq_true q250;have p251 : 0≤(Aa : Int):=of_decide_eq_true (by first|(with_reducible assumption)|assumption);have q251 : Aa<(l0.length : Int):=of_decide_eq_true (by first|(with_reducible assumption)|assumption);obtain⟨ad251,e251,Aj,Ak,Am,Ao,Ap,Aq,Ar,As⟩:=zp HR0.out Aa p251 q251;have hw251_7:=As;have hw251_6:=Ar;have hw251_5:=Aq;have hw251_4:=Ap;have hw251_3:=Ao;have hw251_2:=Am;have hw251_1:=Ak;have hw251_0:=Aj;obtain rfl : ad250=ad251:=(by injection e251);replace Aj:=(HB.out.cell (World.block_lt_of_cell? w _ Aj)).trans Aj;replace Ak:=(HB.out.cell (World.block_lt_of_cell? w _ Ak)).trans Ak;replace Am:=(HB.out.cell (World.block_lt_of_cell? w _ Am)).trans Am;replace Ao:=(HB.out.cell (World.block_lt_of_cell? w _ Ao)).trans Ao;replace Ap:=(HB.out.cell (World.block_lt_of_cell? w _ Ap)).trans Ap;replace Aq:=(HB.out.cell (World.block_lt_of_cell? w _ Aq)).trans Aq;replace Ar:=(HB.out.cell (World.block_lt_of_cell? w _ Ar)).trans Ar;replace As:=(HB.out.cell (World.block_lt_of_cell? w _ As)).trans As;replace p251:=eq_true p251;replace q251:=eq_true q251;have p252 : 0≤(Aa : Int):=of_decide_eq_true (by first|(with_reducible assumption)|assumption);have q252 : Aa<(l0.length : Int):=of_decide_eq_true (by first|(with_reducible assumption)|assumption);obtain⟨ad252,e252,At,Au,Av,Aw,Ax,Ay,Az,AA⟩:=zp HR0.out Aa p252 q252;have hw252_7:=AA;have hw252_6:=Az;have hw252_5:=Ay;have hw252_4:=Ax;have hw252_3:=Aw;have hw252_2:=Av;have hw252_1:=Au;have hw252_0:=At;obtain rfl : ad250=ad252:=(by injection e252);replace At:=(HB.out.cell (World.block_lt_of_cell? w _ At)).trans At;replace Au:=(HB.out.cell (World.block_lt_of_cell? w _ Au)).trans Au;replace Av:=(HB.out.cell (World.block_lt_of_cell? w _ Av)).trans Av;replace Aw:=(HB.out.cell (World.block_lt_of_cell? w _ Aw)).trans Aw;replace Ax:=(HB.out.cell (World.block_lt_of_cell? w _ Ax)).trans Ax;replace Ay:=(HB.out.cell (World.block_lt_of_cell? w _ Ay)).trans Ay;replace Az:=(HB.out.cell (World.block_lt_of_cell? w _ Az)).trans Az;replace AA:=(HB.out.cell (World.block_lt_of_cell? w _ AA)).trans AA;replace p252:=eq_true p252;replace q252:=eq_true q252;have p253 : 0≤(Aa : Int):=of_decide_eq_true (by first|(with_reducible assumption)|assumption);have q253 : Aa<(l0.length : Int):=of_decide_eq_true (by first|(with_reducible assumption)|assumption);obtain⟨ad253,e253,AB,AC,AD,AE,AF,AG,AH,AJ⟩:=zp HR0.out Aa p253 q253;have hw253_7:=AJ;have hw253_6:=AH;have hw253_5:=AG;have hw253_4:=AF;have hw253_3:=AE;have hw253_2:=AD;have hw253_1:=AC;have hw253_0:=AB;obtain rfl : ad250=ad253:=(by injection e253);replace AB:=(HB.out.cell (World.block_lt_of_cell? w _ AB)).trans AB;replace AC:=(HB.out.cell (World.block_lt_of_cell? w _ AC)).trans AC;replace AD:=(HB.out.cell (World.block_lt_of_cell? w _ AD)).trans AD;replace AE:=(HB.out.cell (World.block_lt_of_cell? w _ AE)).trans AE;replace AF:=(HB.out.cell (World.block_lt_of_cell? w _ AF)).trans AF;replace AG:=(HB.out.cell (World.block_lt_of_cell? w _ AG)).trans AG;replace AH:=(HB.out.cell (World.block_lt_of_cell? w _ AH)).trans AH;replace AJ:=(HB.out.cell (World.block_lt_of_cell? w _ AJ)).trans AJ;replace p253:=eq_true p253;replace q253:=eq_true q253;have p254 : 0≤(Aa : Int):=of_decide_eq_true (by first|(with_reducible assumption)|assumption);have q254 : Aa<(l0.length : Int):=of_decide_eq_true (by first|(with_reducible assumption)|assumption);obtain⟨ad254,e254,AK,AL,AM,AP,AQ,AR,AU,AV⟩:=zp HR0.out Aa p254 q254;have hw254_7:=AV;have hw254_6:=AU;have hw254_5:=AR;have hw254_4:=AQ;have hw254_3:=AP;have hw254_2:=AM;have hw254_1:=AL;have hw254_0:=AK;obtain rfl : ad250=ad254:=(by injection e254);replace AK:=(HB.out.cell (World.block_lt_of_cell? w _ AK)).trans AK;replace AL:=(HB.out.cell (World.block_lt_of_cell? w _ AL)).trans AL;replace AM:=(HB.out.cell (World.block_lt_of_cell? w _ AM)).trans AM;replace AP:=(HB.out.cell (World.block_lt_of_cell? w _ AP)).trans AP;replace AQ:=(HB.out.cell (World.block_lt_of_cell? w _ AQ)).trans AQ;replace AR:=(HB.out.cell (World.block_lt_of_cell? w _ AR)).trans AR;replace AU:=(HB.out.cell (World.block_lt_of_cell? w _ AU)).trans AU;replace AV:=(HB.out.cell (World.block_lt_of_cell? w _ AV)).trans AV;replace p254:=eq_true p254;replace q254:=eq_true q254;refine zS (n:=35) (S:=fun w'=>w'.cell? (ad250.add ((Aa).toNat * 8))=some (.int .i64 ((qf l0 Aa).f0))∧w'.cell? ⟨(ad250.add ((Aa).toNat * 8)).block,(ad250.add ((Aa).toNat * 8)).off + 1,none⟩=some (.int .i64 ((qf l0 Aa).f1))∧w'.cell? ⟨(ad250.add ((Aa).toNat * 8)).block,(ad250.add ((Aa).toNat * 8)).off + 2,none⟩=some (.int .i64 ((qf l0 Aa).f2.f0))∧w'.cell? ⟨(ad250.add ((Aa).toNat * 8)).block,(ad250.add ((Aa).toNat * 8)).off + 3,none⟩=some (.int .i64 ((qf l0 Aa).f2.f1))∧w'.cell? ⟨(ad250.add ((Aa).toNat * 8)).block,(ad250.add ((Aa).toNat * 8)).off + 4,none⟩=some (.int .i64 ((qf l0 Aa).f2.f2))∧w'.cell? ⟨(ad250.add ((Aa).toNat * 8)).block,(ad250.add ((Aa).toNat * 8)).off + 5,none⟩=some (.bool ((qf l0 Aa).f2.f3))∧w'.cell? ⟨(ad250.add ((Aa).toNat * 8)).block,(ad250.add ((Aa).toNat * 8)).off + 6,none⟩=some (.string ((qf l0 Aa).f2.f4))∧w'.cell? ⟨(ad250.add ((Aa).toNat * 8)).block,(ad250.add ((Aa).toNat * 8)).off + 7,none⟩=some (.int .i64 ((qf l0 Aa).f2.f5))∧w'.cell? (ad250.add ((Aa).toNat * 8))=some (.int .i64 ((qf l0 Aa).f0))∧w'.cell? ⟨(ad250.add ((Aa).toNat * 8)).block,(ad250.add ((Aa).toNat * 8)).off + 1,none⟩=some (.int .i64 ((qf l0 Aa).f1))∧w'.cell? ⟨(ad250.add ((Aa).toNat * 8)).block,(ad250.add ((Aa).toNat * 8)).off + 2,none⟩=some (.int .i64 ((qf l0 Aa).f2.f0))∧w'.cell? ⟨(ad250.add ((Aa).toNat * 8)).block,(ad250.add ((Aa).toNat * 8)).off + 3,none⟩=some (.int .i64 ((qf l0 Aa).f2.f1))∧w'.cell? ⟨(ad250.add ((Aa).toNat * 8)).block,(ad250.add ((Aa).toNat * 8)).off + 4,none⟩=some (.int .i64 ((qf l0 Aa).f2.f2))∧w'.cell? ⟨(ad250.add ((Aa).toNat * 8)).block,(ad250.add ((Aa).toNat * 8)).off + 5,none⟩=some (.bool ((qf l0 Aa).f2.f3))∧w'.cell? ⟨(ad250.add ((Aa).toNat * 8)).block,(ad250.add ((Aa).toNat * 8)).off + 6,none⟩=some (.string ((qf l0 Aa).f2.f4))∧w'.cell? ⟨(ad250.add ((Aa).toNat * 8)).block,(ad250.add ((Aa).toNat * 8)).off + 7,none⟩=some (.int .i64 ((qf l0 Aa).f2.f5))∧w'.cell? (ad250.add ((Aa).toNat * 8))=some (.int .i64 ((qf l0 Aa).f0))∧w'.cell? ⟨(ad250.add ((Aa).toNat * 8)).block,(ad250.add ((Aa).toNat * 8)).off + 1,none⟩=some (.int .i64 ((qf l0 Aa).f1))∧w'.cell? ⟨(ad250.add ((Aa).toNat * 8)).block,(ad250.add ((Aa).toNat * 8)).off + 2,none⟩=some (.int .i64 ((qf l0 Aa).f2.f0))∧w'.cell? ⟨(ad250.add ((Aa).toNat * 8)).block,(ad250.add ((Aa).toNat * 8)).off + 3,none⟩=some (.int .i64 ((qf l0 Aa).f2.f1))∧w'.cell? ⟨(ad250.add ((Aa).toNat * 8)).block,(ad250.add ((Aa).toNat * 8)).off + 4,none⟩=some (.int .i64 ((qf l0 Aa).f2.f2))∧w'.cell? ⟨(ad250.add ((Aa).toNat * 8)).block,(ad250.add ((Aa).toNat * 8)).off + 5,none⟩=some (.bool ((qf l0 Aa).f2.f3))∧w'.cell? ⟨(ad250.add ((Aa).toNat * 8)).block,(ad250.add ((Aa).toNat * 8)).off + 6,none⟩=some (.string ((qf l0 Aa).f2.f4))∧w'.cell? ⟨(ad250.add ((Aa).toNat * 8)).block,(ad250.add ((Aa).toNat * 8)).off + 7,none⟩=some (.int .i64 ((qf l0 Aa).f2.f5))∧w'.cell? (ad250.add ((Aa).toNat * 8))=some (.int .i64 ((qf l0 Aa).f0))∧w'.cell? ⟨(ad250.add ((Aa).toNat * 8)).block,(ad250.add ((Aa).toNat * 8)).off + 1,none⟩=some (.int .i64 ((qf l0 Aa).f1))∧w'.cell? ⟨(ad250.add ((Aa).toNat * 8)).block,(ad250.add ((Aa).toNat * 8)).off + 2,none⟩=some (.int .i64 ((qf l0 Aa).f2.f0))∧w'.cell? ⟨(ad250.add ((Aa).toNat * 8)).block,(ad250.add ((Aa).toNat * 8)).off + 3,none⟩=some (.int .i64 ((qf l0 Aa).f2.f1))∧w'.cell? ⟨(ad250.add ((Aa).toNat * 8)).block,(ad250.add ((Aa).toNat * 8)).off + 4,none⟩=some (.int .i64 ((qf l0 Aa).f2.f2))∧w'.cell? ⟨(ad250.add ((Aa).toNat * 8)).block,(ad250.add ((Aa).toNat * 8)).off + 5,none⟩=some (.bool ((qf l0 Aa).f2.f3))∧w'.cell? ⟨(ad250.add ((Aa).toNat * 8)).block,(ad250.add ((Aa).toNat * 8)).off + 6,none⟩=some (.string ((qf l0 Aa).f2.f4))∧w'.cell? ⟨(ad250.add ((Aa).toNat * 8)).block,(ad250.add ((Aa).toNat * 8)).off + 7,none⟩=some (.int .i64 ((qf l0 Aa).f2.f5))∧w'.cell? (ad250.add ((Aa).toNat * 8))=some (.int .i64 ((qf l0 Aa).f0))∧w'.cell? ⟨(ad250.add ((Aa).toNat * 8)).block,(ad250.add ((Aa).toNat * 8)).off + 1,none⟩=some (.int .i64 ((qf l0 Aa).f1))∧w'.cell? ⟨(ad250.add ((Aa).toNat * 8)).block,(ad250.add ((Aa).toNat * 8)).off + 2,none⟩=some (.int .i64 ((qf l0 Aa).f2.f0))∧w'.cell? ⟨(ad250.add ((Aa).toNat * 8)).block,(ad250.add ((Aa).toNat * 8)).off + 3,none⟩=some (.int .i64 ((qf l0 Aa).f2.f1))∧w'.cell? ⟨(ad250.add ((Aa).toNat * 8)).block,(ad250.add ((Aa).toNat * 8)).off + 4,none⟩=some (.int .i64 ((qf l0 Aa).f2.f2))∧w'.cell? ⟨(ad250.add ((Aa).toNat * 8)).block,(ad250.add ((Aa).toNat * 8)).off + 5,none⟩=some (.bool ((qf l0 Aa).f2.f3))∧w'.cell? ⟨(ad250.add ((Aa).toNat * 8)).block,(ad250.add ((Aa).toNat * 8)).off + 6,none⟩=some (.string ((qf l0 Aa).f2.f4))∧w'.cell? ⟨(ad250.add ((Aa).toNat * 8)).block,(ad250.add ((Aa).toNat * 8)).off + 7,none⟩=some (.int .i64 ((qf l0 Aa).f2.f5))) (ds:=[]) #[false,false,false,false,false,false,false,false,false,false,false,false,false,false,false,false,false,false,false,false,false,false,false,false,false,false,false,false,false,false,false,false,false,false,false] (by kernel_rfl) rfl rfl ⟨((HB.out.cell (World.block_lt_of_cell? w _ hw250_0)).trans hw250_0),((HB.out.cell (World.block_lt_of_cell? w _ hw250_1)).trans hw250_1),((HB.out.cell (World.block_lt_of_cell? w _ hw250_2)).trans hw250_2),((HB.out.cell (World.block_lt_of_cell? w _ hw250_3)).trans hw250_3),((HB.out.cell (World.block_lt_of_cell? w _ hw250_4)).trans hw250_4),((HB.out.cell (World.block_lt_of_cell? w _ hw250_5)).trans hw250_5),((HB.out.cell (World.block_lt_of_cell? w _ hw250_6)).trans hw250_6),((HB.out.cell (World.block_lt_of_cell? w _ hw250_7)).trans hw250_7),((HB.out.cell (World.block_lt_of_cell? w _ hw251_0)).trans hw251_0),((HB.out.cell (World.block_lt_of_cell? w _ hw251_1)).trans hw251_1),((HB.out.cell (World.block_lt_of_cell? w _ hw251_2)).trans hw251_2),((HB.out.cell (World.block_lt_of_cell? w _ hw251_3)).trans hw251_3),((HB.out.cell (World.block_lt_of_cell? w _ hw251_4)).trans hw251_4),((HB.out.cell (World.block_lt_of_cell? w _ hw251_5)).trans hw251_5),((HB.out.cell (World.block_lt_of_cell? w _ hw251_6)).trans hw251_6),((HB.out.cell (World.block_lt_of_cell? w _ hw251_7)).trans hw251_7),((HB.out.cell (World.block_lt_of_cell? w _ hw252_0)).trans hw252_0),((HB.out.cell (World.block_lt_of_cell? w _ hw252_1)).trans hw252_1),((HB.out.cell (World.block_lt_of_cell? w _ hw252_2)).trans hw252_2),((HB.out.cell (World.block_lt_of_cell? w _ hw252_3)).trans hw252_3),((HB.out.cell (World.block_lt_of_cell? w _ hw252_4)).trans hw252_4),((HB.out.cell (World.block_lt_of_cell? w _ hw252_5)).trans hw252_5),((HB.out.cell (World.block_lt_of_cell? w _ hw252_6)).trans hw252_6),((HB.out.cell (World.block_lt_of_cell? w _ hw252_7)).trans hw252_7),((HB.out.cell (World.block_lt_of_cell? w _ hw253_0)).trans hw253_0),((HB.out.cell (World.block_lt_of_cell? w _ hw253_1)).trans hw253_1),((HB.out.cell (World.block_lt_of_cell? w _ hw253_2)).trans hw253_2),((HB.out.cell (World.block_lt_of_cell? w _ hw253_3)).trans hw253_3),((HB.out.cell (World.block_lt_of_cell? w _ hw253_4)).trans hw253_4),((HB.out.cell (World.block_lt_of_cell? w _ hw253_5)).trans hw253_5),((HB.out.cell (World.block_lt_of_cell? w _ hw253_6)).trans hw253_6),((HB.out.cell (World.block_lt_of_cell? w _ hw253_7)).trans hw253_7),((HB.out.cell (World.block_lt_of_cell? w _ hw254_0)).trans hw254_0),((HB.out.cell (World.block_lt_of_cell? w _ hw254_1)).trans hw254_1),((HB.out.cell (World.block_lt_of_cell? w _ hw254_2)).trans hw254_2),((HB.out.cell (World.block_lt_of_cell? w _ hw254_3)).trans hw254_3),((HB.out.cell (World.block_lt_of_cell? w _ hw254_4)).trans hw254_4),((HB.out.cell (World.block_lt_of_cell? w _ hw254_5)).trans hw254_5),((HB.out.cell (World.block_lt_of_cell? w _ hw254_6)).trans hw254_6),((HB.out.cell (World.block_lt_of_cell? w _ hw254_7)).trans hw254_7)⟩ (fun hHeld=>?_);refine zu qA.tab4 qA.bits4 (fun HT_ HW_=>?_)
        generalize wr.drew=w8 at HB Ab Ac Ad Ae Af Ag Ah Ai Aj Ak Am Ao Ap Aq Ar As At Au Av Aw Ax Ay Az AA AB AC AD AE AF AG AH AJ AK AL AM AP AQ AR AU AV hHeld ⊢
        refine qw (i:=0) (N:=some 10) (v:=?_) (a':=?_) #[true,false,false,false,false,false,false,false,false,false,false,false,false,false,false,false,false,false,false,false,false,false,false,false,false,false,false,false,false,false,false,false,false,false,false] rfl rfl (qn HT_.out (by kernel_rfl)) (fun _ _ _ h=>h) (Or.inl ⟨by rfl,?_⟩) ?_ ?_;rotate_left
        ·intro w'
         go_simp
         with_reducible rfl
        rotate_left
        ·simp only [Act.put,qSa,qSb,qSc,qm,qq]
         rfl
        refine qw (i:=1) (N:=some 11) (v:=?_) (a':=?_) #[true,true,false,false,false,false,false,false,false,false,false,false,false,false,false,false,false,false,false,false,false,false,false,false,false,false,false,false,false,false,false,false,false,false,false] rfl rfl (qn HT_.out (by kernel_rfl)) (fun _ _ _ h=>h) (Or.inl ⟨by rfl,?_⟩) ?_ ?_;rotate_left
        ·intro w'
         go_simp
         with_reducible rfl
        rotate_left
        ·simp only [Act.put,qSa,qSb,qSc,qm,qq]
         rfl
        refine qw (i:=2) (N:=some 12) (v:=?_) (a':=?_) #[true,true,true,false,false,false,false,false,false,false,false,false,false,false,false,false,false,false,false,false,false,false,false,false,false,false,false,false,false,false,false,false,false,false,false] rfl rfl (qn HT_.out (by kernel_rfl)) (fun _ _ _ h=>h) (Or.inl ⟨by rfl,?_⟩) ?_ ?_;rotate_left
        ·intro w'
         go_simp
         with_reducible rfl
        rotate_left
        ·simp only [Act.put,qSa,qSb,qSc,qm,qq]
         rfl
        refine qw (i:=3) (N:=some 13) (v:=?_) (a':=?_) #[true,true,true,true,false,false,false,false,false,false,false,false,false,false,false,false,false,false,false,false,false,false,false,false,false,false,false,false,false,false,false,false,false,false,false] rfl rfl (qn HT_.out (by kernel_rfl)) (fun _ _ _ h=>h) (Or.inl ⟨by rfl,?_⟩) ?_ ?_;rotate_left
        ·intro w'
         go_simp
         with_reducible rfl
        rotate_left
        ·simp only [Act.put,qSa,qSb,qSc,qm,qq]
         rfl
        refine qw (i:=4) (N:=some 14) (v:=?_) (a':=?_) #[true,true,true,true,true,false,false,false,false,false,false,false,false,false,false,false,false,false,false,false,false,false,false,false,false,false,false,false,false,false,false,false,false,false,false] rfl rfl (qn HT_.out (by kernel_rfl)) (fun _ _ _ h=>h) (Or.inl ⟨by rfl,?_⟩) ?_ ?_;rotate_left
        ·intro w'
         go_simp
         with_reducible rfl
        rotate_left
        ·simp only [Act.put,qSa,qSb,qSc,qm,qq]
         rfl
        refine qw (i:=6) (N:=some 16) (v:=?_) (a':=?_) #[true,true,true,true,true,false,true,false,false,false,false,false,false,false,false,false,false,false,false,false,false,false,false,false,false,false,false,false,false,false,false,false,false,false,false] rfl rfl (qn HT_.out (by kernel_rfl)) (fun _ _ _ h=>h) (Or.inl ⟨by rfl,?_⟩) ?_ ?_;rotate_left
        ·intro w'
         go_simp
         with_reducible rfl
        rotate_left
        ·simp only [Act.put,qSa,qSb,qSc,qm,qq]
         rfl
        refine qw (i:=7) (N:=some 17) (v:=?_) (a':=?_) #[true,true,true,true,true,false,true,true,false,false,false,false,false,false,false,false,false,false,false,false,false,false,false,false,false,false,false,false,false,false,false,false,false,false,false] rfl rfl (qn HT_.out (by kernel_rfl)) (fun _ _ _ h=>h) (Or.inl ⟨by rfl,?_⟩) ?_ ?_;rotate_left
        ·intro w'
         go_simp
         with_reducible rfl
        rotate_left
        ·simp only [Act.put,qSa,qSb,qSc,qm,qq]
         rfl
        refine qw (i:=8) (N:=some 18) (v:=?_) (a':=?_) #[true,true,true,true,true,false,true,true,true,false,false,false,false,false,false,false,false,false,false,false,false,false,false,false,false,false,false,false,false,false,false,false,false,false,false] rfl rfl (qn HT_.out (by kernel_rfl)) (fun _ _ _ h=>h) (Or.inl ⟨by rfl,?_⟩) ?_ ?_;rotate_left
        ·intro w'
         go_simp
         with_reducible rfl
        rotate_left
        ·simp only [Act.put,qSa,qSb,qSc,qm,qq]
         rfl
        refine qw (i:=9) (N:=some 19) (v:=?_) (a':=?_) #[true,true,true,true,true,false,true,true,true,true,false,false,false,false,false,false,false,false,false,false,false,false,false,false,false,false,false,false,false,false,false,false,false,false,false] rfl rfl (qn HT_.out (by kernel_rfl)) (fun _ _ _ h=>h) (Or.inl ⟨by rfl,?_⟩) ?_ ?_;rotate_left
        ·intro w'
         go_simp
         with_reducible rfl
        rotate_left
        ·simp only [Act.put,qSa,qSb,qSc,qm,qq]
         rfl
        refine vZ (i:=5) (N:=some 15) (v:=?_) (a':=?_) #[true,true,true,true,true,true,true,true,true,true,false,false,false,false,false,false,false,false,false,false,false,false,false,false,false,false,false,false,false,false,false,false,false,false,false] rfl rfl (vu HT_.out HW_.out (by kernel_rfl)) (fun _ _ _ h=>h) (Or.inl ⟨by rfl,?_⟩) hHeld ?_ ?_;rotate_left
        ·rintro w' ⟨s0,s1,s2,s3,s4,s5,s6,s7,s8,s9,s10,s11,s12,s13,s14,s15,s16,s17,s18,s19,s20,s21,s22,s23,s24,s25,s26,s27,s28,s29,s30,s31,s32,s33,s34,s35,s36,s37,s38,s39⟩
         go_simp
         with_reducible rfl
        rotate_left
        ·simp only [Act.put,qSa,qSb,qSc,qm,qq]
         rfl
        refine vZ (i:=10) (N:=some 20) (v:=?_) (a':=?_) #[true,true,true,true,true,true,true,true,true,true,true,false,false,false,false,false,false,false,false,false,false,false,false,false,false,false,false,false,false,false,false,false,false,false,false] rfl rfl (vu HT_.out HW_.out (by kernel_rfl)) (fun _ _ _ h=>h) (Or.inl ⟨by rfl,?_⟩) hHeld ?_ ?_;rotate_left
        ·rintro w' ⟨s0,s1,s2,s3,s4,s5,s6,s7,s8,s9,s10,s11,s12,s13,s14,s15,s16,s17,s18,s19,s20,s21,s22,s23,s24,s25,s26,s27,s28,s29,s30,s31,s32,s33,s34,s35,s36,s37,s38,s39⟩
         go_simp
         with_reducible rfl
        rotate_left
        ·simp only [Act.put,qSa,qSb,qSc,qm,qq]
         rfl
        refine qw (i:=11) (N:=some 21) (v:=?_) (a':=?_) #[true,true,true,true,true,true,true,true,true,true,true,true,false,false,false,false,false,false,false,false,false,false,false,false,false,false,false,false,false,false,false,false,false,false,false] rfl rfl (qn HT_.out (by kernel_rfl)) (fun _ _ _ h=>h) (Or.inl ⟨by rfl,?_⟩) ?_ ?_;rotate_left
        ·intro w'
         go_simp
         with_reducible rfl
        rotate_left
        ·simp only [Act.put,qSa,qSb,qSc,qm,qq]
         rfl
        refine qw (i:=12) (N:=some 22) (v:=?_) (a':=?_) #[true,true,true,true,true,true,true,true,true,true,true,true,true,false,false,false,false,false,false,false,false,false,false,false,false,false,false,false,false,false,false,false,false,false,false] rfl rfl (qn HT_.out (by kernel_rfl)) (fun _ _ _ h=>h) (Or.inl ⟨by rfl,?_⟩) ?_ ?_;rotate_left
        ·intro w'
         go_simp
         with_reducible rfl
        rotate_left
        ·simp only [Act.put,qSa,qSb,qSc,qm,qq]
         rfl
        refine qw (i:=13) (N:=some 23) (v:=?_) (a':=?_) #[true,true,true,true,true,true,true,true,true,true,true,true,true,true,false,false,false,false,false,false,false,false,false,false,false,false,false,false,false,false,false,false,false,false,false] rfl rfl (qn HT_.out (by kernel_rfl)) (fun _ _ _ h=>h) (Or.inl ⟨by rfl,?_⟩) ?_ ?_;rotate_left
        ·intro w'
         go_simp
         with_reducible rfl
        rotate_left
        ·simp only [Act.put,qSa,qSb,qSc,qm,qq]
         rfl
        refine qw (i:=14) (N:=some 24) (v:=?_) (a':=?_) #[true,true,true,true,true,true,true,true,true,true,true,true,true,true,true,false,false,false,false,false,false,false,false,false,false,false,false,false,false,false,false,false,false,false,false] rfl rfl (qn HT_.out (by kernel_rfl)) (fun _ _ _ h=>h) (Or.inl ⟨by rfl,?_⟩) ?_ ?_;rotate_left
        ·intro w'
         go_simp
         with_reducible rfl
        rotate_left
        ·simp only [Act.put,qSa,qSb,qSc,qm,qq]
         rfl
        refine qw (i:=15) (N:=some 25) (v:=?_) (a':=?_) #[true,true,true,true,true,true,true,true,true,true,true,true,true,true,true,true,false,false,false,false,false,false,false,false,false,false,false,false,false,false,false,false,false,false,false] rfl rfl (qn HT_.out (by kernel_rfl)) (fun _ _ _ h=>h) (Or.inl ⟨by rfl,?_⟩) ?_ ?_;rotate_left
        ·intro w'
         go_simp
         with_reducible rfl
        rotate_left
        ·simp only [Act.put,qSa,qSb,qSc,qm,qq]
         rfl
        refine qw (i:=16) (N:=some 26) (v:=?_) (a':=?_) #[true,true,true,true,true,true,true,true,true,true,true,true,true,true,true,true,true,false,false,false,false,false,false,false,false,false,false,false,false,false,false,false,false,false,false] rfl rfl (qn HT_.out (by kernel_rfl)) (fun _ _ _ h=>h) (Or.inl ⟨by rfl,?_⟩) ?_ ?_;rotate_left
        ·intro w'
         go_simp
         with_reducible rfl
        rotate_left
        ·simp only [Act.put,qSa,qSb,qSc,qm,qq]
         rfl
        refine qw (i:=17) (N:=some 27) (v:=?_) (a':=?_) #[true,true,true,true,true,true,true,true,true,true,true,true,true,true,true,true,true,true,false,false,false,false,false,false,false,false,false,false,false,false,false,false,false,false,false] rfl rfl (qn HT_.out (by kernel_rfl)) (fun _ _ _ h=>h) (Or.inl ⟨by rfl,?_⟩) ?_ ?_;rotate_left
        ·intro w'
         go_simp
         with_reducible rfl
        rotate_left
        ·simp only [Act.put,qSa,qSb,qSc,qm,qq]
         rfl
        refine qw (i:=19) (N:=some 29) (v:=?_) (a':=?_) #[true,true,true,true,true,true,true,true,true,true,true,true,true,true,true,true,true,true,false,true,false,false,false,false,false,false,false,false,false,false,false,false,false,false,false] rfl rfl (qn HT_.out (by kernel_rfl)) (fun _ _ _ h=>h) (Or.inl ⟨by rfl,?_⟩) ?_ ?_;rotate_left
        ·intro w'
         go_simp
         with_reducible rfl
        rotate_left
        ·simp only [Act.put,qSa,qSb,qSc,qm,qq]
         rfl
        refine qw (i:=20) (N:=some 30) (v:=?_) (a':=?_) #[true,true,true,true,true,true,true,true,true,true,true,true,true,true,true,true,true,true,false,true,true,false,false,false,false,false,false,false,false,false,false,false,false,false,false] rfl rfl (qn HT_.out (by kernel_rfl)) (fun _ _ _ h=>h) (Or.inl ⟨by rfl,?_⟩) ?_ ?_;rotate_left
        ·intro w'
         go_simp
         with_reducible rfl
        rotate_left
        ·simp only [Act.put,qSa,qSb,qSc,qm,qq]
         rfl
        refine qw (i:=21) (N:=some 31) (v:=?_) (a':=?_) #[true,true,true,true,true,true,true,true,true,true,true,true,true,true,true,true,true,true,false,true,true,true,false,false,false,false,false,false,false,false,false,false,false,false,false] rfl rfl (qn HT_.out (by kernel_rfl)) (fun _ _ _ h=>h) (Or.inl ⟨by rfl,?_⟩) ?_ ?_;rotate_left
        ·intro w'
         go_simp
         with_reducible rfl
        rotate_left
        ·simp only [Act.put,qSa,qSb,qSc,qm,qq]
         rfl
        refine qw (i:=22) (N:=some 32) (v:=?_) (a':=?_) #[true,true,true,true,true,true,true,true,true,true,true,true,true,true,true,true,true,true,false,true,true,true,true,false,false,false,false,false,false,false,false,false,false,false,false] rfl rfl (qn HT_.out (by kernel_rfl)) (fun _ _ _ h=>h) (Or.inl ⟨by rfl,?_⟩) ?_ ?_;rotate_left
        ·intro w'
         go_simp
         with_reducible rfl
        rotate_left
        ·simp only [Act.put,qSa,qSb,qSc,qm,qq]
         rfl
        refine vZ (i:=18) (N:=some 28) (v:=?_) (a':=?_) #[true,true,true,true,true,true,true,true,true,true,true,true,true,true,true,true,true,true,true,true,true,true,true,false,false,false,false,false,false,false,false,false,false,false,false] rfl rfl (vu HT_.out HW_.out (by kernel_rfl)) (fun _ _ _ h=>h) (Or.inl ⟨by rfl,?_⟩) hHeld ?_ ?_;rotate_left
        ·rintro w' ⟨s0,s1,s2,s3,s4,s5,s6,s7,s8,s9,s10,s11,s12,s13,s14,s15,s16,s17,s18,s19,s20,s21,s22,s23,s24,s25,s26,s27,s28,s29,s30,s31,s32,s33,s34,s35,s36,s37,s38,s39⟩
         go_simp
         with_reducible rfl
        rotate_left
        ·simp only [Act.put,qSa,qSb,qSc,qm,qq]
         rfl
        refine vZ (i:=23) (N:=some 33) (v:=?_) (a':=?_) #[true,true,true,true,true,true,true,true,true,true,true,true,true,true,true,true,true,true,true,true,true,true,true,true,false,false,false,false,false,false,false,false,false,false,false] rfl rfl (vu HT_.out HW_.out (by kernel_rfl)) (fun _ _ _ h=>h) (Or.inl ⟨by rfl,?_⟩) hHeld ?_ ?_;rotate_left
        ·rintro w' ⟨s0,s1,s2,s3,s4,s5,s6,s7,s8,s9,s10,s11,s12,s13,s14,s15,s16,s17,s18,s19,s20,s21,s22,s23,s24,s25,s26,s27,s28,s29,s30,s31,s32,s33,s34,s35,s36,s37,s38,s39⟩
         go_simp
         with_reducible rfl
        rotate_left
        ·simp only [Act.put,qSa,qSb,qSc,qm,qq]
         rfl
        refine qw (i:=24) (N:=some 34) (v:=?_) (a':=?_) #[true,true,true,true,true,true,true,true,true,true,true,true,true,true,true,true,true,true,true,true,true,true,true,true,true,false,false,false,false,false,false,false,false,false,false] rfl rfl (qn HT_.out (by kernel_rfl)) (fun _ _ _ h=>h) (Or.inl ⟨by rfl,?_⟩) ?_ ?_;rotate_left
        ·intro w'
         go_simp
         with_reducible rfl
        rotate_left
        ·simp only [Act.put,qSa,qSb,qSc,qm,qq]
         rfl
        refine qw (i:=25) (N:=some 35) (v:=?_) (a':=?_) #[true,true,true,true,true,true,true,true,true,true,true,true,true,true,true,true,true,true,true,true,true,true,true,true,true,true,false,false,false,false,false,false,false,false,false] rfl rfl (qn HT_.out (by kernel_rfl)) (fun _ _ _ h=>h) (Or.inl ⟨by rfl,?_⟩) ?_ ?_;rotate_left
        ·intro w'
         go_simp
         with_reducible rfl
        rotate_left
        ·simp only [Act.put,qSa,qSb,qSc,qm,qq]
         rfl
        refine qw (i:=26) (N:=some 36) (v:=?_) (a':=?_) #[true,true,true,true,true,true,true,true,true,true,true,true,true,true,true,true,true,true,true,true,true,true,true,true,true,true,true,false,false,false,false,false,false,false,false] rfl rfl (qn HT_.out (by kernel_rfl)) (fun _ _ _ h=>h) (Or.inl ⟨by rfl,?_⟩) ?_ ?_;rotate_left
        ·intro w'
         go_simp
         with_reducible rfl
        rotate_left
        ·simp only [Act.put,qSa,qSb,qSc,qm,qq]
         rfl
        refine qw (i:=27) (N:=some 37) (v:=?_) (a':=?_) #[true,true,true,true,true,true,true,true,true,true,true,true,true,true,true,true,true,true,true,true,true,true,true,true,true,true,true,true,false,false,false,false,false,false,false] rfl rfl (qn HT_.out (by kernel_rfl)) (fun _ _ _ h=>h) (Or.inl ⟨by rfl,?_⟩) ?_ ?_;rotate_left
        ·intro w'
         go_simp
         with_reducible rfl
        rotate_left
        ·simp only [Act.put,qSa,qSb,qSc,qm,qq]
         rfl
        refine qw (i:=28) (N:=some 38) (v:=?_) (a':=?_) #[true,true,true,true,true,true,true,true,true,true,true,true,true,true,true,true,true,true,true,true,true,true,true,true,true,true,true,true,true,false,false,false,false,false,false] rfl rfl (qn HT_.out (by kernel_rfl)) (fun _ _ _ h=>h) (Or.inl ⟨by rfl,?_⟩) ?_ ?_;rotate_left
        ·intro w'
         go_simp
         with_reducible rfl
        rotate_left
        ·simp only [Act.put,qSa,qSb,qSc,qm,qq]
         rfl
        refine qw (i:=29) (N:=some 39) (v:=?_) (a':=?_) #[true,true,true,true,true,true,true,true,true,true,true,true,true,true,true,true,true,true,true,true,true,true,true,true,true,true,true,true,true,true,false,false,false,false,false] rfl rfl (qn HT_.out (by kernel_rfl)) (fun _ _ _ h=>h) (Or.inl ⟨by rfl,?_⟩) ?_ ?_;rotate_left
        ·intro w'
         go_simp
         with_reducible rfl
        rotate_left
        ·simp only [Act.put,qSa,qSb,qSc,qm,qq]
         rfl
        refine qw (i:=30) (N:=some 40) (v:=?_) (a':=?_) #[true,true,true,true,true,true,true,true,true,true,true,true,true,true,true,true,true,true,true,true,true,true,true,true,true,true,true,true,true,true,true,false,false,false,false] rfl rfl (qn HT_.out (by kernel_rfl)) (fun _ _ _ h=>h) (Or.inl ⟨by rfl,?_⟩) ?_ ?_;rotate_left
        ·intro w'
         go_simp
         with_reducible rfl
        rotate_left
        ·simp only [Act.put,qSa,qSb,qSc,qm,qq]
         rfl
        refine vZ (i:=31) (N:=some 41) (v:=?_) (a':=?_) #[true,true,true,true,true,true,true,true,true,true,true,true,true,true,true,true,true,true,true,true,true,true,true,true,true,true,true,true,true,true,true,true,false,false,false] rfl rfl (vu HT_.out HW_.out (by kernel_rfl)) (fun _ _ _ h=>h) (Or.inl ⟨by rfl,?_⟩) hHeld ?_ ?_;rotate_left
        ·rintro w' ⟨s0,s1,s2,s3,s4,s5,s6,s7,s8,s9,s10,s11,s12,s13,s14,s15,s16,s17,s18,s19,s20,s21,s22,s23,s24,s25,s26,s27,s28,s29,s30,s31,s32,s33,s34,s35,s36,s37,s38,s39⟩
         go_simp
         with_reducible rfl
        rotate_left
        ·simp only [Act.put,qSa,qSb,qSc,qm,qq]
         rfl
        refine zP (i:=32) (N:=some 42) #[true,true,true,true,true,true,true,true,true,true,true,true,true,true,true,true,true,true,true,true,true,true,true,true,true,true,true,true,true,true,true,true,true,false,false] rfl rfl (zm HT_.out (by kernel_rfl)) (by decide) (fun K hK=>?_);refine zy Tryd.func81 (by kernel_rfl) rfl #[.agg #[.int .i64 ((qf l0 Aa).f2.f0),.int .i64 ((qf l0 Aa).f2.f1),.int .i64 ((qf l0 Aa).f2.f2),.bool ((qf l0 Aa).f2.f3),.string ((qf l0 Aa).f2.f4),.int .i64 ((qf l0 Aa).f2.f5)]] (by rfl) rfl rfl (by(try simp only [List.map_toArray,List.map_cons,List.map_nil]);first|done|rfl|(simp only [List.length_drop,List.length_take];rfl)) ?_
        with_reducible refine(qF.calls k1 ((qf l0 Aa).f2.f0) ((qf l0 Aa).f2.f1) ((qf l0 Aa).f2.f2) ((qf l0 Aa).f2.f3) ((qf l0 Aa).f2.f4) ((qf l0 Aa).f2.f5) AW _ A6.out).mono ?_
        rintro e w9 ⟨rfl,hb⟩;refine⟨_,rfl,?_⟩;have AX:=qb.mk (qB (by repeat(first|(with_reducible first|exact HB.out|apply qd|apply qa|apply qc)|exact HB.out)) hb);clear HB;have HB:=AX;clear AX
        (try clear hb)
        (try clear hb2)
        (try clear hk)
        (try clear hi)
        refine hK.out _ _ ⟨((HB.out.cell (World.block_lt_of_cell? w _ hw250_0)).trans hw250_0),((HB.out.cell (World.block_lt_of_cell? w _ hw250_1)).trans hw250_1),((HB.out.cell (World.block_lt_of_cell? w _ hw250_2)).trans hw250_2),((HB.out.cell (World.block_lt_of_cell? w _ hw250_3)).trans hw250_3),((HB.out.cell (World.block_lt_of_cell? w _ hw250_4)).trans hw250_4),((HB.out.cell (World.block_lt_of_cell? w _ hw250_5)).trans hw250_5),((HB.out.cell (World.block_lt_of_cell? w _ hw250_6)).trans hw250_6),((HB.out.cell (World.block_lt_of_cell? w _ hw250_7)).trans hw250_7),((HB.out.cell (World.block_lt_of_cell? w _ hw251_0)).trans hw251_0),((HB.out.cell (World.block_lt_of_cell? w _ hw251_1)).trans hw251_1),((HB.out.cell (World.block_lt_of_cell? w _ hw251_2)).trans hw251_2),((HB.out.cell (World.block_lt_of_cell? w _ hw251_3)).trans hw251_3),((HB.out.cell (World.block_lt_of_cell? w _ hw251_4)).trans hw251_4),((HB.out.cell (World.block_lt_of_cell? w _ hw251_5)).trans hw251_5),((HB.out.cell (World.block_lt_of_cell? w _ hw251_6)).trans hw251_6),((HB.out.cell (World.block_lt_of_cell? w _ hw251_7)).trans hw251_7),((HB.out.cell (World.block_lt_of_cell? w _ hw252_0)).trans hw252_0),((HB.out.cell (World.block_lt_of_cell? w _ hw252_1)).trans hw252_1),((HB.out.cell (World.block_lt_of_cell? w _ hw252_2)).trans hw252_2),((HB.out.cell (World.block_lt_of_cell? w _ hw252_3)).trans hw252_3),((HB.out.cell (World.block_lt_of_cell? w _ hw252_4)).trans hw252_4),((HB.out.cell (World.block_lt_of_cell? w _ hw252_5)).trans hw252_5),((HB.out.cell (World.block_lt_of_cell? w _ hw252_6)).trans hw252_6),((HB.out.cell (World.block_lt_of_cell? w _ hw252_7)).trans hw252_7),((HB.out.cell (World.block_lt_of_cell? w _ hw253_0)).trans hw253_0),((HB.out.cell (World.block_lt_of_cell? w _ hw253_1)).trans hw253_1),((HB.out.cell (World.block_lt_of_cell? w _ hw253_2)).trans hw253_2),((HB.out.cell (World.block_lt_of_cell? w _ hw253_3)).trans hw253_3),((HB.out.cell (World.block_lt_of_cell? w _ hw253_4)).trans hw253_4),((HB.out.cell (World.block_lt_of_cell? w _ hw253_5)).trans hw253_5),((HB.out.cell (World.block_lt_of_cell? w _ hw253_6)).trans hw253_6),((HB.out.cell (World.block_lt_of_cell? w _ hw253_7)).trans hw253_7),((HB.out.cell (World.block_lt_of_cell? w _ hw254_0)).trans hw254_0),((HB.out.cell (World.block_lt_of_cell? w _ hw254_1)).trans hw254_1),((HB.out.cell (World.block_lt_of_cell? w _ hw254_2)).trans hw254_2),((HB.out.cell (World.block_lt_of_cell? w _ hw254_3)).trans hw254_3),((HB.out.cell (World.block_lt_of_cell? w _ hw254_4)).trans hw254_4),((HB.out.cell (World.block_lt_of_cell? w _ hw254_5)).trans hw254_5),((HB.out.cell (World.block_lt_of_cell? w _ hw254_6)).trans hw254_6),((HB.out.cell (World.block_lt_of_cell? w _ hw254_7)).trans hw254_7)⟩ (fun hHeld=>?_);clear hK K;refine zz (a':=?_) ?_ ?_;rotate_left
        ·show Act.put _ (some 42) _=_
         simp only [Act.put,qSa,qSb,qSc,qm,qq]
         rfl
        refine qw (i:=33) (N:=some 43) (v:=?_) (a':=?_) #[true,true,true,true,true,true,true,true,true,true,true,true,true,true,true,true,true,true,true,true,true,true,true,true,true,true,true,true,true,true,true,true,true,true,false] rfl rfl (qn HT_.out (by kernel_rfl)) (fun _ _ _ h=>h) (Or.inl ⟨by rfl,?_⟩) ?_ ?_;rotate_left
        ·intro w'
         go_simp
         with_reducible rfl
        rotate_left
        ·simp only [Act.put,qSa,qSb,qSc,qm,qq]
         rfl
        refine qw (i:=34) (N:=some 44) (v:=?_) (a':=?_) #[true,true,true,true,true,true,true,true,true,true,true,true,true,true,true,true,true,true,true,true,true,true,true,true,true,true,true,true,true,true,true,true,true,true,true] rfl rfl (qn HT_.out (by kernel_rfl)) (fun _ _ _ h=>h) (Or.inl ⟨by rfl,?_⟩) ?_ ?_;rotate_left
        ·intro w'
         go_simp
         with_reducible rfl
        rotate_left
        ·simp only [Act.put,qSa,qSb,qSc,qm,qq]
         rfl
        refine jn (zK HT_.out (by kernel_rfl)) ?_;try go_wp2
        go_roundg k1
        case measure=>have:=HK1.out;omega
        case rel=>exact⟨(wrap64 (Aa + 1)),(by first|rfl|(simp;done)|(simp [*];done)),H',⟨by have:=HK1.out;omega⟩,⟨by repeat(first|(with_reducible first|exact HB.out|apply qd|apply qa|apply qc)|exact HB.out)⟩⟩
       ·rw [if_neg c7] at H
        have c7b0 : (AW == 0)=false:=beq_eq_false_iff_ne.mpr c7;have c7b1 : (AW != 0)=true:=bne_iff_ne.mpr c7;obtain rfl:=Option.some.inj H;try go_wp2
        have AX:=qb.mk (qc HB.out);clear HB;have HB:=AX;clear AX;have p250 : 0≤(Aa : Int):=of_decide_eq_true (by first|(with_reducible assumption)|assumption);have q250 : Aa<(l0.length : Int):=of_decide_eq_true (by first|(with_reducible assumption)|assumption);obtain⟨ad250,e250,Ab,Ac,Ad,Ae,Af,Ag,Ah,Ai⟩:=zp HR0.out Aa p250 q250;have hw250_7:=Ai;have hw250_6:=Ah;have hw250_5:=Ag;have hw250_4:=Af;have hw250_3:=Ae;have hw250_2:=Ad;have hw250_1:=Ac;have hw250_0:=Ab
        cases e250
        replace Ab:=(HB.out.cell (World.block_lt_of_cell? w _ Ab)).trans Ab;replace Ac:=(HB.out.cell (World.block_lt_of_cell? w _ Ac)).trans Ac;replace Ad:=(HB.out.cell (World.block_lt_of_cell? w _ Ad)).trans Ad;replace Ae:=(HB.out.cell (World.block_lt_of_cell? w _ Ae)).trans Ae;replace Af:=(HB.out.cell (World.block_lt_of_cell? w _ Af)).trans Af;replace Ag:=(HB.out.cell (World.block_lt_of_cell? w _ Ag)).trans Ag;replace Ah:=(HB.out.cell (World.block_lt_of_cell? w _ Ah)).trans Ah;replace Ai:=(HB.out.cell (World.block_lt_of_cell? w _ Ai)).trans Ai;replace p250:=eq_true p250;replace q250:=eq_true q250;have p251 : 0≤(Aa : Int):=of_decide_eq_true (by first|(with_reducible assumption)|assumption);have q251 : Aa<(l0.length : Int):=of_decide_eq_true (by first|(with_reducible assumption)|assumption);obtain⟨ad251,e251,Aj,Ak,Am,Ao,Ap,Aq,Ar,As⟩:=zp HR0.out Aa p251 q251;have hw251_7:=As;have hw251_6:=Ar;have hw251_5:=Aq;have hw251_4:=Ap;have hw251_3:=Ao;have hw251_2:=Am;have hw251_1:=Ak;have hw251_0:=Aj;obtain rfl : ad250=ad251:=(by injection e251);replace Aj:=(HB.out.cell (World.block_lt_of_cell? w _ Aj)).trans Aj;replace Ak:=(HB.out.cell (World.block_lt_of_cell? w _ Ak)).trans Ak;replace Am:=(HB.out.cell (World.block_lt_of_cell? w _ Am)).trans Am;replace Ao:=(HB.out.cell (World.block_lt_of_cell? w _ Ao)).trans Ao;replace Ap:=(HB.out.cell (World.block_lt_of_cell? w _ Ap)).trans Ap;replace Aq:=(HB.out.cell (World.block_lt_of_cell? w _ Aq)).trans Aq;replace Ar:=(HB.out.cell (World.block_lt_of_cell? w _ Ar)).trans Ar;replace As:=(HB.out.cell (World.block_lt_of_cell? w _ As)).trans As;replace p251:=eq_true p251;replace q251:=eq_true q251;have p252 : 0≤(Aa : Int):=of_decide_eq_true (by first|(with_reducible assumption)|assumption);have q252 : Aa<(l0.length : Int):=of_decide_eq_true (by first|(with_reducible assumption)|assumption);obtain⟨ad252,e252,At,Au,Av,Aw,Ax,Ay,Az,AA⟩:=zp HR0.out Aa p252 q252;have hw252_7:=AA;have hw252_6:=Az;have hw252_5:=Ay;have hw252_4:=Ax;have hw252_3:=Aw;have hw252_2:=Av;have hw252_1:=Au;have hw252_0:=At;obtain rfl : ad250=ad252:=(by injection e252);replace At:=(HB.out.cell (World.block_lt_of_cell? w _ At)).trans At;replace Au:=(HB.out.cell (World.block_lt_of_cell? w _ Au)).trans Au;replace Av:=(HB.out.cell (World.block_lt_of_cell? w _ Av)).trans Av;replace Aw:=(HB.out.cell (World.block_lt_of_cell? w _ Aw)).trans Aw;replace Ax:=(HB.out.cell (World.block_lt_of_cell? w _ Ax)).trans Ax;replace Ay:=(HB.out.cell (World.block_lt_of_cell? w _ Ay)).trans Ay;replace Az:=(HB.out.cell (World.block_lt_of_cell? w _ Az)).trans Az;replace AA:=(HB.out.cell (World.block_lt_of_cell? w _ AA)).trans AA;replace p252:=eq_true p252;replace q252:=eq_true q252;have p253 : 0≤(Aa : Int):=of_decide_eq_true (by first|(with_reducible assumption)|assumption);have q253 : Aa<(l0.length : Int):=of_decide_eq_true (by first|(with_reducible assumption)|assumption);obtain⟨ad253,e253,AB,AC,AD,AE,AF,AG,AH,AJ⟩:=zp HR0.out Aa p253 q253;have hw253_7:=AJ;have hw253_6:=AH;have hw253_5:=AG;have hw253_4:=AF;have hw253_3:=AE;have hw253_2:=AD;have hw253_1:=AC;have hw253_0:=AB;obtain rfl : ad250=ad253:=(by injection e253);replace AB:=(HB.out.cell (World.block_lt_of_cell? w _ AB)).trans AB;replace AC:=(HB.out.cell (World.block_lt_of_cell? w _ AC)).trans AC;replace AD:=(HB.out.cell (World.block_lt_of_cell? w _ AD)).trans AD;replace AE:=(HB.out.cell (World.block_lt_of_cell? w _ AE)).trans AE;replace AF:=(HB.out.cell (World.block_lt_of_cell? w _ AF)).trans AF;replace AG:=(HB.out.cell (World.block_lt_of_cell? w _ AG)).trans AG;replace AH:=(HB.out.cell (World.block_lt_of_cell? w _ AH)).trans AH;replace AJ:=(HB.out.cell (World.block_lt_of_cell? w _ AJ)).trans AJ;replace p253:=eq_true p253;replace q253:=eq_true q253;have p254 : 0≤(Aa : Int):=of_decide_eq_true (by first|(with_reducible assumption)|assumption);have q254 : Aa<(l0.length : Int):=of_decide_eq_true (by first|(with_reducible assumption)|assumption);obtain⟨ad254,e254,AK,AL,AM,AP,AQ,AR,AU,AV⟩:=zp HR0.out Aa p254 q254;have hw254_7:=AV;have hw254_6:=AU;have hw254_5:=AR;have hw254_4:=AQ;have hw254_3:=AP;have hw254_2:=AM;have hw254_1:=AL;have hw254_0:=AK;obtain rfl : ad250=ad254:=(by injection e254);replace AK:=(HB.out.cell (World.block_lt_of_cell? w _ AK)).trans AK;replace AL:=(HB.out.cell (World.block_lt_of_cell? w _ AL)).trans AL;replace AM:=(HB.out.cell (World.block_lt_of_cell? w _ AM)).trans AM;replace AP:=(HB.out.cell (World.block_lt_of_cell? w _ AP)).trans AP;replace AQ:=(HB.out.cell (World.block_lt_of_cell? w _ AQ)).trans AQ;replace AR:=(HB.out.cell (World.block_lt_of_cell? w _ AR)).trans AR;replace AU:=(HB.out.cell (World.block_lt_of_cell? w _ AU)).trans AU;replace AV:=(HB.out.cell (World.block_lt_of_cell? w _ AV)).trans AV;replace p254:=eq_true p254;replace q254:=eq_true q254;refine zS (n:=35) (S:=fun w'=>w'.cell? (ad250.add ((Aa).toNat * 8))=some (.int .i64 ((qf l0 Aa).f0))∧w'.cell? ⟨(ad250.add ((Aa).toNat * 8)).block,(ad250.add ((Aa).toNat * 8)).off + 1,none⟩=some (.int .i64 ((qf l0 Aa).f1))∧w'.cell? ⟨(ad250.add ((Aa).toNat * 8)).block,(ad250.add ((Aa).toNat * 8)).off + 2,none⟩=some (.int .i64 ((qf l0 Aa).f2.f0))∧w'.cell? ⟨(ad250.add ((Aa).toNat * 8)).block,(ad250.add ((Aa).toNat * 8)).off + 3,none⟩=some (.int .i64 ((qf l0 Aa).f2.f1))∧w'.cell? ⟨(ad250.add ((Aa).toNat * 8)).block,(ad250.add ((Aa).toNat * 8)).off + 4,none⟩=some (.int .i64 ((qf l0 Aa).f2.f2))∧w'.cell? ⟨(ad250.add ((Aa).toNat * 8)).block,(ad250.add ((Aa).toNat * 8)).off + 5,none⟩=some (.bool ((qf l0 Aa).f2.f3))∧w'.cell? ⟨(ad250.add ((Aa).toNat * 8)).block,(ad250.add ((Aa).toNat * 8)).off + 6,none⟩=some (.string ((qf l0 Aa).f2.f4))∧w'.cell? ⟨(ad250.add ((Aa).toNat * 8)).block,(ad250.add ((Aa).toNat * 8)).off + 7,none⟩=some (.int .i64 ((qf l0 Aa).f2.f5))∧w'.cell? (ad250.add ((Aa).toNat * 8))=some (.int .i64 ((qf l0 Aa).f0))∧w'.cell? ⟨(ad250.add ((Aa).toNat * 8)).block,(ad250.add ((Aa).toNat * 8)).off + 1,none⟩=some (.int .i64 ((qf l0 Aa).f1))∧w'.cell? ⟨(ad250.add ((Aa).toNat * 8)).block,(ad250.add ((Aa).toNat * 8)).off + 2,none⟩=some (.int .i64 ((qf l0 Aa).f2.f0))∧w'.cell? ⟨(ad250.add ((Aa).toNat * 8)).block,(ad250.add ((Aa).toNat * 8)).off + 3,none⟩=some (.int .i64 ((qf l0 Aa).f2.f1))∧w'.cell? ⟨(ad250.add ((Aa).toNat * 8)).block,(ad250.add ((Aa).toNat * 8)).off + 4,none⟩=some (.int .i64 ((qf l0 Aa).f2.f2))∧w'.cell? ⟨(ad250.add ((Aa).toNat * 8)).block,(ad250.add ((Aa).toNat * 8)).off + 5,none⟩=some (.bool ((qf l0 Aa).f2.f3))∧w'.cell? ⟨(ad250.add ((Aa).toNat * 8)).block,(ad250.add ((Aa).toNat * 8)).off + 6,none⟩=some (.string ((qf l0 Aa).f2.f4))∧w'.cell? ⟨(ad250.add ((Aa).toNat * 8)).block,(ad250.add ((Aa).toNat * 8)).off + 7,none⟩=some (.int .i64 ((qf l0 Aa).f2.f5))∧w'.cell? (ad250.add ((Aa).toNat * 8))=some (.int .i64 ((qf l0 Aa).f0))∧w'.cell? ⟨(ad250.add ((Aa).toNat * 8)).block,(ad250.add ((Aa).toNat * 8)).off + 1,none⟩=some (.int .i64 ((qf l0 Aa).f1))∧w'.cell? ⟨(ad250.add ((Aa).toNat * 8)).block,(ad250.add ((Aa).toNat * 8)).off + 2,none⟩=some (.int .i64 ((qf l0 Aa).f2.f0))∧w'.cell? ⟨(ad250.add ((Aa).toNat * 8)).block,(ad250.add ((Aa).toNat * 8)).off + 3,none⟩=some (.int .i64 ((qf l0 Aa).f2.f1))∧w'.cell? ⟨(ad250.add ((Aa).toNat * 8)).block,(ad250.add ((Aa).toNat * 8)).off + 4,none⟩=some (.int .i64 ((qf l0 Aa).f2.f2))∧w'.cell? ⟨(ad250.add ((Aa).toNat * 8)).block,(ad250.add ((Aa).toNat * 8)).off + 5,none⟩=some (.bool ((qf l0 Aa).f2.f3))∧w'.cell? ⟨(ad250.add ((Aa).toNat * 8)).block,(ad250.add ((Aa).toNat * 8)).off + 6,none⟩=some (.string ((qf l0 Aa).f2.f4))∧w'.cell? ⟨(ad250.add ((Aa).toNat * 8)).block,(ad250.add ((Aa).toNat * 8)).off + 7,none⟩=some (.int .i64 ((qf l0 Aa).f2.f5))∧w'.cell? (ad250.add ((Aa).toNat * 8))=some (.int .i64 ((qf l0 Aa).f0))∧w'.cell? ⟨(ad250.add ((Aa).toNat * 8)).block,(ad250.add ((Aa).toNat * 8)).off + 1,none⟩=some (.int .i64 ((qf l0 Aa).f1))∧w'.cell? ⟨(ad250.add ((Aa).toNat * 8)).block,(ad250.add ((Aa).toNat * 8)).off + 2,none⟩=some (.int .i64 ((qf l0 Aa).f2.f0))∧w'.cell? ⟨(ad250.add ((Aa).toNat * 8)).block,(ad250.add ((Aa).toNat * 8)).off + 3,none⟩=some (.int .i64 ((qf l0 Aa).f2.f1))∧w'.cell? ⟨(ad250.add ((Aa).toNat * 8)).block,(ad250.add ((Aa).toNat * 8)).off + 4,none⟩=some (.int .i64 ((qf l0 Aa).f2.f2))∧w'.cell? ⟨(ad250.add ((Aa).toNat * 8)).block,(ad250.add ((Aa).toNat * 8)).off + 5,none⟩=some (.bool ((qf l0 Aa).f2.f3))∧w'.cell? ⟨(ad250.add ((Aa).toNat * 8)).block,(ad250.add ((Aa).toNat * 8)).off + 6,none⟩=some (.string ((qf l0 Aa).f2.f4))∧w'.cell? ⟨(ad250.add ((Aa).toNat * 8)).block,(ad250.add ((Aa).toNat * 8)).off + 7,none⟩=some (.int .i64 ((qf l0 Aa).f2.f5))∧w'.cell? (ad250.add ((Aa).toNat * 8))=some (.int .i64 ((qf l0 Aa).f0))∧w'.cell? ⟨(ad250.add ((Aa).toNat * 8)).block,(ad250.add ((Aa).toNat * 8)).off + 1,none⟩=some (.int .i64 ((qf l0 Aa).f1))∧w'.cell? ⟨(ad250.add ((Aa).toNat * 8)).block,(ad250.add ((Aa).toNat * 8)).off + 2,none⟩=some (.int .i64 ((qf l0 Aa).f2.f0))∧w'.cell? ⟨(ad250.add ((Aa).toNat * 8)).block,(ad250.add ((Aa).toNat * 8)).off + 3,none⟩=some (.int .i64 ((qf l0 Aa).f2.f1))∧w'.cell? ⟨(ad250.add ((Aa).toNat * 8)).block,(ad250.add ((Aa).toNat * 8)).off + 4,none⟩=some (.int .i64 ((qf l0 Aa).f2.f2))∧w'.cell? ⟨(ad250.add ((Aa).toNat * 8)).block,(ad250.add ((Aa).toNat * 8)).off + 5,none⟩=some (.bool ((qf l0 Aa).f2.f3))∧w'.cell? ⟨(ad250.add ((Aa).toNat * 8)).block,(ad250.add ((Aa).toNat * 8)).off + 6,none⟩=some (.string ((qf l0 Aa).f2.f4))∧w'.cell? ⟨(ad250.add ((Aa).toNat * 8)).block,(ad250.add ((Aa).toNat * 8)).off + 7,none⟩=some (.int .i64 ((qf l0 Aa).f2.f5))) (ds:=[]) #[false,false,false,false,false,false,false,false,false,false,false,false,false,false,false,false,false,false,false,false,false,false,false,false,false,false,false,false,false,false,false,false,false,false,false] (by kernel_rfl) rfl rfl ⟨((HB.out.cell (World.block_lt_of_cell? w _ hw250_0)).trans hw250_0),((HB.out.cell (World.block_lt_of_cell? w _ hw250_1)).trans hw250_1),((HB.out.cell (World.block_lt_of_cell? w _ hw250_2)).trans hw250_2),((HB.out.cell (World.block_lt_of_cell? w _ hw250_3)).trans hw250_3),((HB.out.cell (World.block_lt_of_cell? w _ hw250_4)).trans hw250_4),((HB.out.cell (World.block_lt_of_cell? w _ hw250_5)).trans hw250_5),((HB.out.cell (World.block_lt_of_cell? w _ hw250_6)).trans hw250_6),((HB.out.cell (World.block_lt_of_cell? w _ hw250_7)).trans hw250_7),((HB.out.cell (World.block_lt_of_cell? w _ hw251_0)).trans hw251_0),((HB.out.cell (World.block_lt_of_cell? w _ hw251_1)).trans hw251_1),((HB.out.cell (World.block_lt_of_cell? w _ hw251_2)).trans hw251_2),((HB.out.cell (World.block_lt_of_cell? w _ hw251_3)).trans hw251_3),((HB.out.cell (World.block_lt_of_cell? w _ hw251_4)).trans hw251_4),((HB.out.cell (World.block_lt_of_cell? w _ hw251_5)).trans hw251_5),((HB.out.cell (World.block_lt_of_cell? w _ hw251_6)).trans hw251_6),((HB.out.cell (World.block_lt_of_cell? w _ hw251_7)).trans hw251_7),((HB.out.cell (World.block_lt_of_cell? w _ hw252_0)).trans hw252_0),((HB.out.cell (World.block_lt_of_cell? w _ hw252_1)).trans hw252_1),((HB.out.cell (World.block_lt_of_cell? w _ hw252_2)).trans hw252_2),((HB.out.cell (World.block_lt_of_cell? w _ hw252_3)).trans hw252_3),((HB.out.cell (World.block_lt_of_cell? w _ hw252_4)).trans hw252_4),((HB.out.cell (World.block_lt_of_cell? w _ hw252_5)).trans hw252_5),((HB.out.cell (World.block_lt_of_cell? w _ hw252_6)).trans hw252_6),((HB.out.cell (World.block_lt_of_cell? w _ hw252_7)).trans hw252_7),((HB.out.cell (World.block_lt_of_cell? w _ hw253_0)).trans hw253_0),((HB.out.cell (World.block_lt_of_cell? w _ hw253_1)).trans hw253_1),((HB.out.cell (World.block_lt_of_cell? w _ hw253_2)).trans hw253_2),((HB.out.cell (World.block_lt_of_cell? w _ hw253_3)).trans hw253_3),((HB.out.cell (World.block_lt_of_cell? w _ hw253_4)).trans hw253_4),((HB.out.cell (World.block_lt_of_cell? w _ hw253_5)).trans hw253_5),((HB.out.cell (World.block_lt_of_cell? w _ hw253_6)).trans hw253_6),((HB.out.cell (World.block_lt_of_cell? w _ hw253_7)).trans hw253_7),((HB.out.cell (World.block_lt_of_cell? w _ hw254_0)).trans hw254_0),((HB.out.cell (World.block_lt_of_cell? w _ hw254_1)).trans hw254_1),((HB.out.cell (World.block_lt_of_cell? w _ hw254_2)).trans hw254_2),((HB.out.cell (World.block_lt_of_cell? w _ hw254_3)).trans hw254_3),((HB.out.cell (World.block_lt_of_cell? w _ hw254_4)).trans hw254_4),((HB.out.cell (World.block_lt_of_cell? w _ hw254_5)).trans hw254_5),((HB.out.cell (World.block_lt_of_cell? w _ hw254_6)).trans hw254_6),((HB.out.cell (World.block_lt_of_cell? w _ hw254_7)).trans hw254_7)⟩ (fun hHeld=>?_);refine zu qA.tab4 qA.bits4 (fun HT_ HW_=>?_)
        generalize wr.drew=w10 at HB Ab Ac Ad Ae Af Ag Ah Ai Aj Ak Am Ao Ap Aq Ar As At Au Av Aw Ax Ay Az AA AB AC AD AE AF AG AH AJ AK AL AM AP AQ AR AU AV hHeld ⊢
        refine qw (i:=0) (N:=some 10) (v:=?_) (a':=?_) #[true,false,false,false,false,false,false,false,false,false,false,false,false,false,false,false,false,false,false,false,false,false,false,false,false,false,false,false,false,false,false,false,false,false,false] rfl rfl (qn HT_.out (by kernel_rfl)) (fun _ _ _ h=>h) (Or.inl ⟨by rfl,?_⟩) ?_ ?_;rotate_left
        ·intro w'
         go_simp
         with_reducible rfl
        rotate_left
        ·simp only [Act.put,qSa,qSb,qSc,qm,qq]
         rfl
        refine qw (i:=1) (N:=some 11) (v:=?_) (a':=?_) #[true,true,false,false,false,false,false,false,false,false,false,false,false,false,false,false,false,false,false,false,false,false,false,false,false,false,false,false,false,false,false,false,false,false,false] rfl rfl (qn HT_.out (by kernel_rfl)) (fun _ _ _ h=>h) (Or.inl ⟨by rfl,?_⟩) ?_ ?_;rotate_left
        ·intro w'
         go_simp
         with_reducible rfl
        rotate_left
        ·simp only [Act.put,qSa,qSb,qSc,qm,qq]
         rfl
        refine qw (i:=2) (N:=some 12) (v:=?_) (a':=?_) #[true,true,true,false,false,false,false,false,false,false,false,false,false,false,false,false,false,false,false,false,false,false,false,false,false,false,false,false,false,false,false,false,false,false,false] rfl rfl (qn HT_.out (by kernel_rfl)) (fun _ _ _ h=>h) (Or.inl ⟨by rfl,?_⟩) ?_ ?_;rotate_left
        ·intro w'
         go_simp
         with_reducible rfl
        rotate_left
        ·simp only [Act.put,qSa,qSb,qSc,qm,qq]
         rfl
        refine qw (i:=3) (N:=some 13) (v:=?_) (a':=?_) #[true,true,true,true,false,false,false,false,false,false,false,false,false,false,false,false,false,false,false,false,false,false,false,false,false,false,false,false,false,false,false,false,false,false,false] rfl rfl (qn HT_.out (by kernel_rfl)) (fun _ _ _ h=>h) (Or.inl ⟨by rfl,?_⟩) ?_ ?_;rotate_left
        ·intro w'
         go_simp
         with_reducible rfl
        rotate_left
        ·simp only [Act.put,qSa,qSb,qSc,qm,qq]
         rfl
        refine qw (i:=4) (N:=some 14) (v:=?_) (a':=?_) #[true,true,true,true,true,false,false,false,false,false,false,false,false,false,false,false,false,false,false,false,false,false,false,false,false,false,false,false,false,false,false,false,false,false,false] rfl rfl (qn HT_.out (by kernel_rfl)) (fun _ _ _ h=>h) (Or.inl ⟨by rfl,?_⟩) ?_ ?_;rotate_left
        ·intro w'
         go_simp
         with_reducible rfl
        rotate_left
        ·simp only [Act.put,qSa,qSb,qSc,qm,qq]
         rfl
        refine qw (i:=6) (N:=some 16) (v:=?_) (a':=?_) #[true,true,true,true,true,false,true,false,false,false,false,false,false,false,false,false,false,false,false,false,false,false,false,false,false,false,false,false,false,false,false,false,false,false,false] rfl rfl (qn HT_.out (by kernel_rfl)) (fun _ _ _ h=>h) (Or.inl ⟨by rfl,?_⟩) ?_ ?_;rotate_left
        ·intro w'
         go_simp
         with_reducible rfl
        rotate_left
        ·simp only [Act.put,qSa,qSb,qSc,qm,qq]
         rfl
        refine qw (i:=7) (N:=some 17) (v:=?_) (a':=?_) #[true,true,true,true,true,false,true,true,false,false,false,false,false,false,false,false,false,false,false,false,false,false,false,false,false,false,false,false,false,false,false,false,false,false,false] rfl rfl (qn HT_.out (by kernel_rfl)) (fun _ _ _ h=>h) (Or.inl ⟨by rfl,?_⟩) ?_ ?_;rotate_left
        ·intro w'
         go_simp
         with_reducible rfl
        rotate_left
        ·simp only [Act.put,qSa,qSb,qSc,qm,qq]
         rfl
        refine qw (i:=8) (N:=some 18) (v:=?_) (a':=?_) #[true,true,true,true,true,false,true,true,true,false,false,false,false,false,false,false,false,false,false,false,false,false,false,false,false,false,false,false,false,false,false,false,false,false,false] rfl rfl (qn HT_.out (by kernel_rfl)) (fun _ _ _ h=>h) (Or.inl ⟨by rfl,?_⟩) ?_ ?_;rotate_left
        ·intro w'
         go_simp
         with_reducible rfl
        rotate_left
        ·simp only [Act.put,qSa,qSb,qSc,qm,qq]
         rfl
        refine qw (i:=9) (N:=some 19) (v:=?_) (a':=?_) #[true,true,true,true,true,false,true,true,true,true,false,false,false,false,false,false,false,false,false,false,false,false,false,false,false,false,false,false,false,false,false,false,false,false,false] rfl rfl (qn HT_.out (by kernel_rfl)) (fun _ _ _ h=>h) (Or.inl ⟨by rfl,?_⟩) ?_ ?_;rotate_left
        ·intro w'
         go_simp
         with_reducible rfl
        rotate_left
        ·simp only [Act.put,qSa,qSb,qSc,qm,qq]
         rfl
        refine vZ (i:=5) (N:=some 15) (v:=?_) (a':=?_) #[true,true,true,true,true,true,true,true,true,true,false,false,false,false,false,false,false,false,false,false,false,false,false,false,false,false,false,false,false,false,false,false,false,false,false] rfl rfl (vu HT_.out HW_.out (by kernel_rfl)) (fun _ _ _ h=>h) (Or.inl ⟨by rfl,?_⟩) hHeld ?_ ?_;rotate_left
        ·rintro w' ⟨s0,s1,s2,s3,s4,s5,s6,s7,s8,s9,s10,s11,s12,s13,s14,s15,s16,s17,s18,s19,s20,s21,s22,s23,s24,s25,s26,s27,s28,s29,s30,s31,s32,s33,s34,s35,s36,s37,s38,s39⟩
         go_simp
         with_reducible rfl
        rotate_left
        ·simp only [Act.put,qSa,qSb,qSc,qm,qq]
         rfl
        refine vZ (i:=10) (N:=some 20) (v:=?_) (a':=?_) #[true,true,true,true,true,true,true,true,true,true,true,false,false,false,false,false,false,false,false,false,false,false,false,false,false,false,false,false,false,false,false,false,false,false,false] rfl rfl (vu HT_.out HW_.out (by kernel_rfl)) (fun _ _ _ h=>h) (Or.inl ⟨by rfl,?_⟩) hHeld ?_ ?_;rotate_left
        ·rintro w' ⟨s0,s1,s2,s3,s4,s5,s6,s7,s8,s9,s10,s11,s12,s13,s14,s15,s16,s17,s18,s19,s20,s21,s22,s23,s24,s25,s26,s27,s28,s29,s30,s31,s32,s33,s34,s35,s36,s37,s38,s39⟩
         go_simp
         with_reducible rfl
        rotate_left
        ·simp only [Act.put,qSa,qSb,qSc,qm,qq]
         rfl
        refine qw (i:=11) (N:=some 21) (v:=?_) (a':=?_) #[true,true,true,true,true,true,true,true,true,true,true,true,false,false,false,false,false,false,false,false,false,false,false,false,false,false,false,false,false,false,false,false,false,false,false] rfl rfl (qn HT_.out (by kernel_rfl)) (fun _ _ _ h=>h) (Or.inl ⟨by rfl,?_⟩) ?_ ?_;rotate_left
        ·intro w'
         go_simp
         with_reducible rfl
        rotate_left
        ·simp only [Act.put,qSa,qSb,qSc,qm,qq]
         rfl
        refine qw (i:=12) (N:=some 22) (v:=?_) (a':=?_) #[true,true,true,true,true,true,true,true,true,true,true,true,true,false,false,false,false,false,false,false,false,false,false,false,false,false,false,false,false,false,false,false,false,false,false] rfl rfl (qn HT_.out (by kernel_rfl)) (fun _ _ _ h=>h) (Or.inl ⟨by rfl,?_⟩) ?_ ?_;rotate_left
        ·intro w'
         go_simp
         with_reducible rfl
        rotate_left
        ·simp only [Act.put,qSa,qSb,qSc,qm,qq]
         rfl
        refine qw (i:=13) (N:=some 23) (v:=?_) (a':=?_) #[true,true,true,true,true,true,true,true,true,true,true,true,true,true,false,false,false,false,false,false,false,false,false,false,false,false,false,false,false,false,false,false,false,false,false] rfl rfl (qn HT_.out (by kernel_rfl)) (fun _ _ _ h=>h) (Or.inl ⟨by rfl,?_⟩) ?_ ?_;rotate_left
        ·intro w'
         go_simp
         with_reducible rfl
        rotate_left
        ·simp only [Act.put,qSa,qSb,qSc,qm,qq]
         rfl
        refine qw (i:=14) (N:=some 24) (v:=?_) (a':=?_) #[true,true,true,true,true,true,true,true,true,true,true,true,true,true,true,false,false,false,false,false,false,false,false,false,false,false,false,false,false,false,false,false,false,false,false] rfl rfl (qn HT_.out (by kernel_rfl)) (fun _ _ _ h=>h) (Or.inl ⟨by rfl,?_⟩) ?_ ?_;rotate_left
        ·intro w'
         go_simp
         with_reducible rfl
        rotate_left
        ·simp only [Act.put,qSa,qSb,qSc,qm,qq]
         rfl
        refine qw (i:=15) (N:=some 25) (v:=?_) (a':=?_) #[true,true,true,true,true,true,true,true,true,true,true,true,true,true,true,true,false,false,false,false,false,false,false,false,false,false,false,false,false,false,false,false,false,false,false] rfl rfl (qn HT_.out (by kernel_rfl)) (fun _ _ _ h=>h) (Or.inl ⟨by rfl,?_⟩) ?_ ?_;rotate_left
        ·intro w'
         go_simp
         with_reducible rfl
        rotate_left
        ·simp only [Act.put,qSa,qSb,qSc,qm,qq]
         rfl
        refine qw (i:=16) (N:=some 26) (v:=?_) (a':=?_) #[true,true,true,true,true,true,true,true,true,true,true,true,true,true,true,true,true,false,false,false,false,false,false,false,false,false,false,false,false,false,false,false,false,false,false] rfl rfl (qn HT_.out (by kernel_rfl)) (fun _ _ _ h=>h) (Or.inl ⟨by rfl,?_⟩) ?_ ?_;rotate_left
        ·intro w'
         go_simp
         with_reducible rfl
        rotate_left
        ·simp only [Act.put,qSa,qSb,qSc,qm,qq]
         rfl
        refine qw (i:=17) (N:=some 27) (v:=?_) (a':=?_) #[true,true,true,true,true,true,true,true,true,true,true,true,true,true,true,true,true,true,false,false,false,false,false,false,false,false,false,false,false,false,false,false,false,false,false] rfl rfl (qn HT_.out (by kernel_rfl)) (fun _ _ _ h=>h) (Or.inl ⟨by rfl,?_⟩) ?_ ?_;rotate_left
        ·intro w'
         go_simp
         with_reducible rfl
        rotate_left
        ·simp only [Act.put,qSa,qSb,qSc,qm,qq]
         rfl
        refine qw (i:=19) (N:=some 29) (v:=?_) (a':=?_) #[true,true,true,true,true,true,true,true,true,true,true,true,true,true,true,true,true,true,false,true,false,false,false,false,false,false,false,false,false,false,false,false,false,false,false] rfl rfl (qn HT_.out (by kernel_rfl)) (fun _ _ _ h=>h) (Or.inl ⟨by rfl,?_⟩) ?_ ?_;rotate_left
        ·intro w'
         go_simp
         with_reducible rfl
        rotate_left
        ·simp only [Act.put,qSa,qSb,qSc,qm,qq]
         rfl
        refine qw (i:=20) (N:=some 30) (v:=?_) (a':=?_) #[true,true,true,true,true,true,true,true,true,true,true,true,true,true,true,true,true,true,false,true,true,false,false,false,false,false,false,false,false,false,false,false,false,false,false] rfl rfl (qn HT_.out (by kernel_rfl)) (fun _ _ _ h=>h) (Or.inl ⟨by rfl,?_⟩) ?_ ?_;rotate_left
        ·intro w'
         go_simp
         with_reducible rfl
        rotate_left
        ·simp only [Act.put,qSa,qSb,qSc,qm,qq]
         rfl
        refine qw (i:=21) (N:=some 31) (v:=?_) (a':=?_) #[true,true,true,true,true,true,true,true,true,true,true,true,true,true,true,true,true,true,false,true,true,true,false,false,false,false,false,false,false,false,false,false,false,false,false] rfl rfl (qn HT_.out (by kernel_rfl)) (fun _ _ _ h=>h) (Or.inl ⟨by rfl,?_⟩) ?_ ?_;rotate_left
        ·intro w'
         go_simp
         with_reducible rfl
        rotate_left
        ·simp only [Act.put,qSa,qSb,qSc,qm,qq]
         rfl
        refine qw (i:=22) (N:=some 32) (v:=?_) (a':=?_) #[true,true,true,true,true,true,true,true,true,true,true,true,true,true,true,true,true,true,false,true,true,true,true,false,false,false,false,false,false,false,false,false,false,false,false] rfl rfl (qn HT_.out (by kernel_rfl)) (fun _ _ _ h=>h) (Or.inl ⟨by rfl,?_⟩) ?_ ?_;rotate_left
        ·intro w'
         go_simp
         with_reducible rfl
        rotate_left
        ·simp only [Act.put,qSa,qSb,qSc,qm,qq]
         rfl
        refine vZ (i:=18) (N:=some 28) (v:=?_) (a':=?_) #[true,true,true,true,true,true,true,true,true,true,true,true,true,true,true,true,true,true,true,true,true,true,true,false,false,false,false,false,false,false,false,false,false,false,false] rfl rfl (vu HT_.out HW_.out (by kernel_rfl)) (fun _ _ _ h=>h) (Or.inl ⟨by rfl,?_⟩) hHeld ?_ ?_;rotate_left
        ·rintro w' ⟨s0,s1,s2,s3,s4,s5,s6,s7,s8,s9,s10,s11,s12,s13,s14,s15,s16,s17,s18,s19,s20,s21,s22,s23,s24,s25,s26,s27,s28,s29,s30,s31,s32,s33,s34,s35,s36,s37,s38,s39⟩
         go_simp
         with_reducible rfl
        rotate_left
        ·simp only [Act.put,qSa,qSb,qSc,qm,qq]
         rfl
        refine vZ (i:=23) (N:=some 33) (v:=?_) (a':=?_) #[true,true,true,true,true,true,true,true,true,true,true,true,true,true,true,true,true,true,true,true,true,true,true,true,false,false,false,false,false,false,false,false,false,false,false] rfl rfl (vu HT_.out HW_.out (by kernel_rfl)) (fun _ _ _ h=>h) (Or.inl ⟨by rfl,?_⟩) hHeld ?_ ?_;rotate_left
        ·rintro w' ⟨s0,s1,s2,s3,s4,s5,s6,s7,s8,s9,s10,s11,s12,s13,s14,s15,s16,s17,s18,s19,s20,s21,s22,s23,s24,s25,s26,s27,s28,s29,s30,s31,s32,s33,s34,s35,s36,s37,s38,s39⟩
         go_simp
         with_reducible rfl
        rotate_left
        ·simp only [Act.put,qSa,qSb,qSc,qm,qq]
         rfl
        refine qw (i:=24) (N:=some 34) (v:=?_) (a':=?_) #[true,true,true,true,true,true,true,true,true,true,true,true,true,true,true,true,true,true,true,true,true,true,true,true,true,false,false,false,false,false,false,false,false,false,false] rfl rfl (qn HT_.out (by kernel_rfl)) (fun _ _ _ h=>h) (Or.inl ⟨by rfl,?_⟩) ?_ ?_;rotate_left
        ·intro w'
         go_simp
         with_reducible rfl
        rotate_left
        ·simp only [Act.put,qSa,qSb,qSc,qm,qq]
         rfl
        refine qw (i:=25) (N:=some 35) (v:=?_) (a':=?_) #[true,true,true,true,true,true,true,true,true,true,true,true,true,true,true,true,true,true,true,true,true,true,true,true,true,true,false,false,false,false,false,false,false,false,false] rfl rfl (qn HT_.out (by kernel_rfl)) (fun _ _ _ h=>h) (Or.inl ⟨by rfl,?_⟩) ?_ ?_;rotate_left
        ·intro w'
         go_simp
         with_reducible rfl
        rotate_left
        ·simp only [Act.put,qSa,qSb,qSc,qm,qq]
         rfl
        refine qw (i:=26) (N:=some 36) (v:=?_) (a':=?_) #[true,true,true,true,true,true,true,true,true,true,true,true,true,true,true,true,true,true,true,true,true,true,true,true,true,true,true,false,false,false,false,false,false,false,false] rfl rfl (qn HT_.out (by kernel_rfl)) (fun _ _ _ h=>h) (Or.inl ⟨by rfl,?_⟩) ?_ ?_;rotate_left
        ·intro w'
         go_simp
         with_reducible rfl
        rotate_left
        ·simp only [Act.put,qSa,qSb,qSc,qm,qq]
         rfl
        refine qw (i:=27) (N:=some 37) (v:=?_) (a':=?_) #[true,true,true,true,true,true,true,true,true,true,true,true,true,true,true,true,true,true,true,true,true,true,true,true,true,true,true,true,false,false,false,false,false,false,false] rfl rfl (qn HT_.out (by kernel_rfl)) (fun _ _ _ h=>h) (Or.inl ⟨by rfl,?_⟩) ?_ ?_;rotate_left
        ·intro w'
         go_simp
         with_reducible rfl
        rotate_left
        ·simp only [Act.put,qSa,qSb,qSc,qm,qq]
         rfl
        refine qw (i:=28) (N:=some 38) (v:=?_) (a':=?_) #[true,true,true,true,true,true,true,true,true,true,true,true,true,true,true,true,true,true,true,true,true,true,true,true,true,true,true,true,true,false,false,false,false,false,false] rfl rfl (qn HT_.out (by kernel_rfl)) (fun _ _ _ h=>h) (Or.inl ⟨by rfl,?_⟩) ?_ ?_;rotate_left
        ·intro w'
         go_simp
         with_reducible rfl
        rotate_left
        ·simp only [Act.put,qSa,qSb,qSc,qm,qq]
         rfl
        refine qw (i:=29) (N:=some 39) (v:=?_) (a':=?_) #[true,true,true,true,true,true,true,true,true,true,true,true,true,true,true,true,true,true,true,true,true,true,true,true,true,true,true,true,true,true,false,false,false,false,false] rfl rfl (qn HT_.out (by kernel_rfl)) (fun _ _ _ h=>h) (Or.inl ⟨by rfl,?_⟩) ?_ ?_;rotate_left
        ·intro w'
         go_simp
         with_reducible rfl
        rotate_left
        ·simp only [Act.put,qSa,qSb,qSc,qm,qq]
         rfl
        refine qw (i:=30) (N:=some 40) (v:=?_) (a':=?_) #[true,true,true,true,true,true,true,true,true,true,true,true,true,true,true,true,true,true,true,true,true,true,true,true,true,true,true,true,true,true,true,false,false,false,false] rfl rfl (qn HT_.out (by kernel_rfl)) (fun _ _ _ h=>h) (Or.inl ⟨by rfl,?_⟩) ?_ ?_;rotate_left
        ·intro w'
         go_simp
         with_reducible rfl
        rotate_left
        ·simp only [Act.put,qSa,qSb,qSc,qm,qq]
         rfl
        refine vZ (i:=31) (N:=some 41) (v:=?_) (a':=?_) #[true,true,true,true,true,true,true,true,true,true,true,true,true,true,true,true,true,true,true,true,true,true,true,true,true,true,true,true,true,true,true,true,false,false,false] rfl rfl (vu HT_.out HW_.out (by kernel_rfl)) (fun _ _ _ h=>h) (Or.inl ⟨by rfl,?_⟩) hHeld ?_ ?_;rotate_left
        ·rintro w' ⟨s0,s1,s2,s3,s4,s5,s6,s7,s8,s9,s10,s11,s12,s13,s14,s15,s16,s17,s18,s19,s20,s21,s22,s23,s24,s25,s26,s27,s28,s29,s30,s31,s32,s33,s34,s35,s36,s37,s38,s39⟩
         go_simp
         with_reducible rfl
        rotate_left
        ·simp only [Act.put,qSa,qSb,qSc,qm,qq]
         rfl
        refine zP (i:=32) (N:=some 42) #[true,true,true,true,true,true,true,true,true,true,true,true,true,true,true,true,true,true,true,true,true,true,true,true,true,true,true,true,true,true,true,true,true,false,false] rfl rfl (zm HT_.out (by kernel_rfl)) (by decide) (fun K hK=>?_);refine zy Tryd.func81 (by kernel_rfl) rfl #[.agg #[.int .i64 ((qf l0 Aa).f2.f0),.int .i64 ((qf l0 Aa).f2.f1),.int .i64 ((qf l0 Aa).f2.f2),.bool ((qf l0 Aa).f2.f3),.string ((qf l0 Aa).f2.f4),.int .i64 ((qf l0 Aa).f2.f5)]] (by rfl) rfl rfl (by(try simp only [List.map_toArray,List.map_cons,List.map_nil]);first|done|rfl|(simp only [List.length_drop,List.length_take];rfl)) ?_
        with_reducible refine(qF.calls k1 ((qf l0 Aa).f2.f0) ((qf l0 Aa).f2.f1) ((qf l0 Aa).f2.f2) ((qf l0 Aa).f2.f3) ((qf l0 Aa).f2.f4) ((qf l0 Aa).f2.f5) AW _ A6.out).mono ?_
        rintro e w11 ⟨rfl,hb⟩;refine⟨_,rfl,?_⟩;have AX:=qb.mk (qB (by repeat(first|(with_reducible first|exact HB.out|apply qd|apply qa|apply qc)|exact HB.out)) hb);clear HB;have HB:=AX;clear AX
        (try clear hb)
        (try clear hb2)
        (try clear hk)
        (try clear hi)
        refine hK.out _ _ ⟨((HB.out.cell (World.block_lt_of_cell? w _ hw250_0)).trans hw250_0),((HB.out.cell (World.block_lt_of_cell? w _ hw250_1)).trans hw250_1),((HB.out.cell (World.block_lt_of_cell? w _ hw250_2)).trans hw250_2),((HB.out.cell (World.block_lt_of_cell? w _ hw250_3)).trans hw250_3),((HB.out.cell (World.block_lt_of_cell? w _ hw250_4)).trans hw250_4),((HB.out.cell (World.block_lt_of_cell? w _ hw250_5)).trans hw250_5),((HB.out.cell (World.block_lt_of_cell? w _ hw250_6)).trans hw250_6),((HB.out.cell (World.block_lt_of_cell? w _ hw250_7)).trans hw250_7),((HB.out.cell (World.block_lt_of_cell? w _ hw251_0)).trans hw251_0),((HB.out.cell (World.block_lt_of_cell? w _ hw251_1)).trans hw251_1),((HB.out.cell (World.block_lt_of_cell? w _ hw251_2)).trans hw251_2),((HB.out.cell (World.block_lt_of_cell? w _ hw251_3)).trans hw251_3),((HB.out.cell (World.block_lt_of_cell? w _ hw251_4)).trans hw251_4),((HB.out.cell (World.block_lt_of_cell? w _ hw251_5)).trans hw251_5),((HB.out.cell (World.block_lt_of_cell? w _ hw251_6)).trans hw251_6),((HB.out.cell (World.block_lt_of_cell? w _ hw251_7)).trans hw251_7),((HB.out.cell (World.block_lt_of_cell? w _ hw252_0)).trans hw252_0),((HB.out.cell (World.block_lt_of_cell? w _ hw252_1)).trans hw252_1),((HB.out.cell (World.block_lt_of_cell? w _ hw252_2)).trans hw252_2),((HB.out.cell (World.block_lt_of_cell? w _ hw252_3)).trans hw252_3),((HB.out.cell (World.block_lt_of_cell? w _ hw252_4)).trans hw252_4),((HB.out.cell (World.block_lt_of_cell? w _ hw252_5)).trans hw252_5),((HB.out.cell (World.block_lt_of_cell? w _ hw252_6)).trans hw252_6),((HB.out.cell (World.block_lt_of_cell? w _ hw252_7)).trans hw252_7),((HB.out.cell (World.block_lt_of_cell? w _ hw253_0)).trans hw253_0),((HB.out.cell (World.block_lt_of_cell? w _ hw253_1)).trans hw253_1),((HB.out.cell (World.block_lt_of_cell? w _ hw253_2)).trans hw253_2),((HB.out.cell (World.block_lt_of_cell? w _ hw253_3)).trans hw253_3),((HB.out.cell (World.block_lt_of_cell? w _ hw253_4)).trans hw253_4),((HB.out.cell (World.block_lt_of_cell? w _ hw253_5)).trans hw253_5),((HB.out.cell (World.block_lt_of_cell? w _ hw253_6)).trans hw253_6),((HB.out.cell (World.block_lt_of_cell? w _ hw253_7)).trans hw253_7),((HB.out.cell (World.block_lt_of_cell? w _ hw254_0)).trans hw254_0),((HB.out.cell (World.block_lt_of_cell? w _ hw254_1)).trans hw254_1),((HB.out.cell (World.block_lt_of_cell? w _ hw254_2)).trans hw254_2),((HB.out.cell (World.block_lt_of_cell? w _ hw254_3)).trans hw254_3),((HB.out.cell (World.block_lt_of_cell? w _ hw254_4)).trans hw254_4),((HB.out.cell (World.block_lt_of_cell? w _ hw254_5)).trans hw254_5),((HB.out.cell (World.block_lt_of_cell? w _ hw254_6)).trans hw254_6),((HB.out.cell (World.block_lt_of_cell? w _ hw254_7)).trans hw254_7)⟩ (fun hHeld=>?_);clear hK K;refine zz (a':=?_) ?_ ?_;rotate_left
        ·show Act.put _ (some 42) _=_
         simp only [Act.put,qSa,qSb,qSc,qm,qq]
         rfl
        refine qw (i:=33) (N:=some 43) (v:=?_) (a':=?_) #[true,true,true,true,true,true,true,true,true,true,true,true,true,true,true,true,true,true,true,true,true,true,true,true,true,true,true,true,true,true,true,true,true,true,false] rfl rfl (qn HT_.out (by kernel_rfl)) (fun _ _ _ h=>h) (Or.inl ⟨by rfl,?_⟩) ?_ ?_;rotate_left
        ·intro w'
         go_simp
         with_reducible rfl
        rotate_left
        ·simp only [Act.put,qSa,qSb,qSc,qm,qq]
         rfl
        refine qw (i:=34) (N:=some 44) (v:=?_) (a':=?_) #[true,true,true,true,true,true,true,true,true,true,true,true,true,true,true,true,true,true,true,true,true,true,true,true,true,true,true,true,true,true,true,true,true,true,true] rfl rfl (qn HT_.out (by kernel_rfl)) (fun _ _ _ h=>h) (Or.inl ⟨by rfl,?_⟩) ?_ ?_;rotate_left
        ·intro w'
         go_simp
         with_reducible rfl
        rotate_left
        ·simp only [Act.put,qSa,qSb,qSc,qm,qq]
         rfl
        refine jn (zK HT_.out (by kernel_rfl)) ?_;try go_wp2
        go_ret
        exact⟨by first|rfl|(simp [qK,qL] <;> rfl)|(simp [*,qK,qL] <;> rfl),by repeat(first|(with_reducible first|exact HB.out|apply qd|apply qa|apply qc)|exact HB.out)⟩
      ·rw [if_neg c5] at H
       have c5b0 : (((qf l0 Aa).f2.f1) == ((qf l0 Aa).f1))=false:=beq_eq_false_iff_ne.mpr c5;have c5b1 : (((qf l0 Aa).f2.f1) != ((qf l0 Aa).f1))=true:=bne_iff_ne.mpr c5;obtain rfl:=Option.some.inj H;try go_wp2
       have AX:=qb.mk (qc HB.out);clear HB;have HB:=AX;clear AX;have p250 : 0≤(Aa : Int):=of_decide_eq_true (by first|(with_reducible assumption)|assumption);have q250 : Aa<(l0.length : Int):=of_decide_eq_true (by first|(with_reducible assumption)|assumption);obtain⟨ad250,e250,Ab,Ac,Ad,Ae,Af,Ag,Ah,Ai⟩:=zp HR0.out Aa p250 q250;have hw250_7:=Ai;have hw250_6:=Ah;have hw250_5:=Ag;have hw250_4:=Af;have hw250_3:=Ae;have hw250_2:=Ad;have hw250_1:=Ac;have hw250_0:=Ab
       cases e250
       replace Ab:=(HB.out.cell (World.block_lt_of_cell? w _ Ab)).trans Ab;replace Ac:=(HB.out.cell (World.block_lt_of_cell? w _ Ac)).trans Ac;replace Ad:=(HB.out.cell (World.block_lt_of_cell? w _ Ad)).trans Ad;replace Ae:=(HB.out.cell (World.block_lt_of_cell? w _ Ae)).trans Ae;replace Af:=(HB.out.cell (World.block_lt_of_cell? w _ Af)).trans Af;replace Ag:=(HB.out.cell (World.block_lt_of_cell? w _ Ag)).trans Ag;replace Ah:=(HB.out.cell (World.block_lt_of_cell? w _ Ah)).trans Ah;replace Ai:=(HB.out.cell (World.block_lt_of_cell? w _ Ai)).trans Ai;replace p250:=eq_true p250;replace q250:=eq_true q250;have p251 : 0≤(Aa : Int):=of_decide_eq_true (by first|(with_reducible assumption)|assumption);have q251 : Aa<(l0.length : Int):=of_decide_eq_true (by first|(with_reducible assumption)|assumption);obtain⟨ad251,e251,Aj,Ak,Am,Ao,Ap,Aq,Ar,As⟩:=zp HR0.out Aa p251 q251;have hw251_7:=As;have hw251_6:=Ar;have hw251_5:=Aq;have hw251_4:=Ap;have hw251_3:=Ao;have hw251_2:=Am;have hw251_1:=Ak;have hw251_0:=Aj;obtain rfl : ad250=ad251:=(by injection e251);replace Aj:=(HB.out.cell (World.block_lt_of_cell? w _ Aj)).trans Aj;replace Ak:=(HB.out.cell (World.block_lt_of_cell? w _ Ak)).trans Ak;replace Am:=(HB.out.cell (World.block_lt_of_cell? w _ Am)).trans Am;replace Ao:=(HB.out.cell (World.block_lt_of_cell? w _ Ao)).trans Ao;replace Ap:=(HB.out.cell (World.block_lt_of_cell? w _ Ap)).trans Ap;replace Aq:=(HB.out.cell (World.block_lt_of_cell? w _ Aq)).trans Aq;replace Ar:=(HB.out.cell (World.block_lt_of_cell? w _ Ar)).trans Ar;replace As:=(HB.out.cell (World.block_lt_of_cell? w _ As)).trans As;replace p251:=eq_true p251;replace q251:=eq_true q251;have p252 : 0≤(Aa : Int):=of_decide_eq_true (by first|(with_reducible assumption)|assumption);have q252 : Aa<(l0.length : Int):=of_decide_eq_true (by first|(with_reducible assumption)|assumption);obtain⟨ad252,e252,At,Au,Av,Aw,Ax,Ay,Az,AA⟩:=zp HR0.out Aa p252 q252;have hw252_7:=AA;have hw252_6:=Az;have hw252_5:=Ay;have hw252_4:=Ax;have hw252_3:=Aw;have hw252_2:=Av;have hw252_1:=Au;have hw252_0:=At;obtain rfl : ad250=ad252:=(by injection e252);replace At:=(HB.out.cell (World.block_lt_of_cell? w _ At)).trans At;replace Au:=(HB.out.cell (World.block_lt_of_cell? w _ Au)).trans Au;replace Av:=(HB.out.cell (World.block_lt_of_cell? w _ Av)).trans Av;replace Aw:=(HB.out.cell (World.block_lt_of_cell? w _ Aw)).trans Aw;replace Ax:=(HB.out.cell (World.block_lt_of_cell? w _ Ax)).trans Ax;replace Ay:=(HB.out.cell (World.block_lt_of_cell? w _ Ay)).trans Ay;replace Az:=(HB.out.cell (World.block_lt_of_cell? w _ Az)).trans Az;replace AA:=(HB.out.cell (World.block_lt_of_cell? w _ AA)).trans AA;replace p252:=eq_true p252;replace q252:=eq_true q252;have p253 : 0≤(Aa : Int):=of_decide_eq_true (by first|(with_reducible assumption)|assumption);have q253 : Aa<(l0.length : Int):=of_decide_eq_true (by first|(with_reducible assumption)|assumption);obtain⟨ad253,e253,AB,AC,AD,AE,AF,AG,AH,AJ⟩:=zp HR0.out Aa p253 q253;have hw253_7:=AJ;have hw253_6:=AH;have hw253_5:=AG;have hw253_4:=AF;have hw253_3:=AE;have hw253_2:=AD;have hw253_1:=AC;have hw253_0:=AB;obtain rfl : ad250=ad253:=(by injection e253);replace AB:=(HB.out.cell (World.block_lt_of_cell? w _ AB)).trans AB;replace AC:=(HB.out.cell (World.block_lt_of_cell? w _ AC)).trans AC;replace AD:=(HB.out.cell (World.block_lt_of_cell? w _ AD)).trans AD;replace AE:=(HB.out.cell (World.block_lt_of_cell? w _ AE)).trans AE;replace AF:=(HB.out.cell (World.block_lt_of_cell? w _ AF)).trans AF;replace AG:=(HB.out.cell (World.block_lt_of_cell? w _ AG)).trans AG;replace AH:=(HB.out.cell (World.block_lt_of_cell? w _ AH)).trans AH;replace AJ:=(HB.out.cell (World.block_lt_of_cell? w _ AJ)).trans AJ;replace p253:=eq_true p253;replace q253:=eq_true q253;refine zS (n:=35) (S:=fun w'=>w'.cell? (ad250.add ((Aa).toNat * 8))=some (.int .i64 ((qf l0 Aa).f0))∧w'.cell? ⟨(ad250.add ((Aa).toNat * 8)).block,(ad250.add ((Aa).toNat * 8)).off + 1,none⟩=some (.int .i64 ((qf l0 Aa).f1))∧w'.cell? ⟨(ad250.add ((Aa).toNat * 8)).block,(ad250.add ((Aa).toNat * 8)).off + 2,none⟩=some (.int .i64 ((qf l0 Aa).f2.f0))∧w'.cell? ⟨(ad250.add ((Aa).toNat * 8)).block,(ad250.add ((Aa).toNat * 8)).off + 3,none⟩=some (.int .i64 ((qf l0 Aa).f2.f1))∧w'.cell? ⟨(ad250.add ((Aa).toNat * 8)).block,(ad250.add ((Aa).toNat * 8)).off + 4,none⟩=some (.int .i64 ((qf l0 Aa).f2.f2))∧w'.cell? ⟨(ad250.add ((Aa).toNat * 8)).block,(ad250.add ((Aa).toNat * 8)).off + 5,none⟩=some (.bool ((qf l0 Aa).f2.f3))∧w'.cell? ⟨(ad250.add ((Aa).toNat * 8)).block,(ad250.add ((Aa).toNat * 8)).off + 6,none⟩=some (.string ((qf l0 Aa).f2.f4))∧w'.cell? ⟨(ad250.add ((Aa).toNat * 8)).block,(ad250.add ((Aa).toNat * 8)).off + 7,none⟩=some (.int .i64 ((qf l0 Aa).f2.f5))∧w'.cell? (ad250.add ((Aa).toNat * 8))=some (.int .i64 ((qf l0 Aa).f0))∧w'.cell? ⟨(ad250.add ((Aa).toNat * 8)).block,(ad250.add ((Aa).toNat * 8)).off + 1,none⟩=some (.int .i64 ((qf l0 Aa).f1))∧w'.cell? ⟨(ad250.add ((Aa).toNat * 8)).block,(ad250.add ((Aa).toNat * 8)).off + 2,none⟩=some (.int .i64 ((qf l0 Aa).f2.f0))∧w'.cell? ⟨(ad250.add ((Aa).toNat * 8)).block,(ad250.add ((Aa).toNat * 8)).off + 3,none⟩=some (.int .i64 ((qf l0 Aa).f2.f1))∧w'.cell? ⟨(ad250.add ((Aa).toNat * 8)).block,(ad250.add ((Aa).toNat * 8)).off + 4,none⟩=some (.int .i64 ((qf l0 Aa).f2.f2))∧w'.cell? ⟨(ad250.add ((Aa).toNat * 8)).block,(ad250.add ((Aa).toNat * 8)).off + 5,none⟩=some (.bool ((qf l0 Aa).f2.f3))∧w'.cell? ⟨(ad250.add ((Aa).toNat * 8)).block,(ad250.add ((Aa).toNat * 8)).off + 6,none⟩=some (.string ((qf l0 Aa).f2.f4))∧w'.cell? ⟨(ad250.add ((Aa).toNat * 8)).block,(ad250.add ((Aa).toNat * 8)).off + 7,none⟩=some (.int .i64 ((qf l0 Aa).f2.f5))∧w'.cell? (ad250.add ((Aa).toNat * 8))=some (.int .i64 ((qf l0 Aa).f0))∧w'.cell? ⟨(ad250.add ((Aa).toNat * 8)).block,(ad250.add ((Aa).toNat * 8)).off + 1,none⟩=some (.int .i64 ((qf l0 Aa).f1))∧w'.cell? ⟨(ad250.add ((Aa).toNat * 8)).block,(ad250.add ((Aa).toNat * 8)).off + 2,none⟩=some (.int .i64 ((qf l0 Aa).f2.f0))∧w'.cell? ⟨(ad250.add ((Aa).toNat * 8)).block,(ad250.add ((Aa).toNat * 8)).off + 3,none⟩=some (.int .i64 ((qf l0 Aa).f2.f1))∧w'.cell? ⟨(ad250.add ((Aa).toNat * 8)).block,(ad250.add ((Aa).toNat * 8)).off + 4,none⟩=some (.int .i64 ((qf l0 Aa).f2.f2))∧w'.cell? ⟨(ad250.add ((Aa).toNat * 8)).block,(ad250.add ((Aa).toNat * 8)).off + 5,none⟩=some (.bool ((qf l0 Aa).f2.f3))∧w'.cell? ⟨(ad250.add ((Aa).toNat * 8)).block,(ad250.add ((Aa).toNat * 8)).off + 6,none⟩=some (.string ((qf l0 Aa).f2.f4))∧w'.cell? ⟨(ad250.add ((Aa).toNat * 8)).block,(ad250.add ((Aa).toNat * 8)).off + 7,none⟩=some (.int .i64 ((qf l0 Aa).f2.f5))∧w'.cell? (ad250.add ((Aa).toNat * 8))=some (.int .i64 ((qf l0 Aa).f0))∧w'.cell? ⟨(ad250.add ((Aa).toNat * 8)).block,(ad250.add ((Aa).toNat * 8)).off + 1,none⟩=some (.int .i64 ((qf l0 Aa).f1))∧w'.cell? ⟨(ad250.add ((Aa).toNat * 8)).block,(ad250.add ((Aa).toNat * 8)).off + 2,none⟩=some (.int .i64 ((qf l0 Aa).f2.f0))∧w'.cell? ⟨(ad250.add ((Aa).toNat * 8)).block,(ad250.add ((Aa).toNat * 8)).off + 3,none⟩=some (.int .i64 ((qf l0 Aa).f2.f1))∧w'.cell? ⟨(ad250.add ((Aa).toNat * 8)).block,(ad250.add ((Aa).toNat * 8)).off + 4,none⟩=some (.int .i64 ((qf l0 Aa).f2.f2))∧w'.cell? ⟨(ad250.add ((Aa).toNat * 8)).block,(ad250.add ((Aa).toNat * 8)).off + 5,none⟩=some (.bool ((qf l0 Aa).f2.f3))∧w'.cell? ⟨(ad250.add ((Aa).toNat * 8)).block,(ad250.add ((Aa).toNat * 8)).off + 6,none⟩=some (.string ((qf l0 Aa).f2.f4))∧w'.cell? ⟨(ad250.add ((Aa).toNat * 8)).block,(ad250.add ((Aa).toNat * 8)).off + 7,none⟩=some (.int .i64 ((qf l0 Aa).f2.f5))) (ds:=[]) #[false,false,false,false,false,false,false,false,false,false,false,false,false,false,false,false,false,false,false,false,false,false,false,false,false,false,false,false,false,false,false,false,false,false,false] (by kernel_rfl) rfl rfl ⟨((HB.out.cell (World.block_lt_of_cell? w _ hw250_0)).trans hw250_0),((HB.out.cell (World.block_lt_of_cell? w _ hw250_1)).trans hw250_1),((HB.out.cell (World.block_lt_of_cell? w _ hw250_2)).trans hw250_2),((HB.out.cell (World.block_lt_of_cell? w _ hw250_3)).trans hw250_3),((HB.out.cell (World.block_lt_of_cell? w _ hw250_4)).trans hw250_4),((HB.out.cell (World.block_lt_of_cell? w _ hw250_5)).trans hw250_5),((HB.out.cell (World.block_lt_of_cell? w _ hw250_6)).trans hw250_6),((HB.out.cell (World.block_lt_of_cell? w _ hw250_7)).trans hw250_7),((HB.out.cell (World.block_lt_of_cell? w _ hw251_0)).trans hw251_0),((HB.out.cell (World.block_lt_of_cell? w _ hw251_1)).trans hw251_1),((HB.out.cell (World.block_lt_of_cell? w _ hw251_2)).trans hw251_2),((HB.out.cell (World.block_lt_of_cell? w _ hw251_3)).trans hw251_3),((HB.out.cell (World.block_lt_of_cell? w _ hw251_4)).trans hw251_4),((HB.out.cell (World.block_lt_of_cell? w _ hw251_5)).trans hw251_5),((HB.out.cell (World.block_lt_of_cell? w _ hw251_6)).trans hw251_6),((HB.out.cell (World.block_lt_of_cell? w _ hw251_7)).trans hw251_7),((HB.out.cell (World.block_lt_of_cell? w _ hw252_0)).trans hw252_0),((HB.out.cell (World.block_lt_of_cell? w _ hw252_1)).trans hw252_1),((HB.out.cell (World.block_lt_of_cell? w _ hw252_2)).trans hw252_2),((HB.out.cell (World.block_lt_of_cell? w _ hw252_3)).trans hw252_3),((HB.out.cell (World.block_lt_of_cell? w _ hw252_4)).trans hw252_4),((HB.out.cell (World.block_lt_of_cell? w _ hw252_5)).trans hw252_5),((HB.out.cell (World.block_lt_of_cell? w _ hw252_6)).trans hw252_6),((HB.out.cell (World.block_lt_of_cell? w _ hw252_7)).trans hw252_7),((HB.out.cell (World.block_lt_of_cell? w _ hw253_0)).trans hw253_0),((HB.out.cell (World.block_lt_of_cell? w _ hw253_1)).trans hw253_1),((HB.out.cell (World.block_lt_of_cell? w _ hw253_2)).trans hw253_2),((HB.out.cell (World.block_lt_of_cell? w _ hw253_3)).trans hw253_3),((HB.out.cell (World.block_lt_of_cell? w _ hw253_4)).trans hw253_4),((HB.out.cell (World.block_lt_of_cell? w _ hw253_5)).trans hw253_5),((HB.out.cell (World.block_lt_of_cell? w _ hw253_6)).trans hw253_6),((HB.out.cell (World.block_lt_of_cell? w _ hw253_7)).trans hw253_7)⟩ (fun hHeld=>?_);refine zu qA.tab4 qA.bits4 (fun HT_ HW_=>?_)
       generalize wr.drew=w12 at HB Ab Ac Ad Ae Af Ag Ah Ai Aj Ak Am Ao Ap Aq Ar As At Au Av Aw Ax Ay Az AA AB AC AD AE AF AG AH AJ hHeld ⊢
       refine qw (i:=0) (N:=some 10) (v:=?_) (a':=?_) #[true,false,false,false,false,false,false,false,false,false,false,false,false,false,false,false,false,false,false,false,false,false,false,false,false,false,false,false,false,false,false,false,false,false,false] rfl rfl (qn HT_.out (by kernel_rfl)) (fun _ _ _ h=>h) (Or.inl ⟨by rfl,?_⟩) ?_ ?_;rotate_left
       ·intro w'
        go_simp
        with_reducible rfl
       rotate_left
       ·simp only [Act.put,qSa,qSb,qSc,qm,qq]
        rfl
       refine qw (i:=1) (N:=some 11) (v:=?_) (a':=?_) #[true,true,false,false,false,false,false,false,false,false,false,false,false,false,false,false,false,false,false,false,false,false,false,false,false,false,false,false,false,false,false,false,false,false,false] rfl rfl (qn HT_.out (by kernel_rfl)) (fun _ _ _ h=>h) (Or.inl ⟨by rfl,?_⟩) ?_ ?_;rotate_left
       ·intro w'
        go_simp
        with_reducible rfl
       rotate_left
       ·simp only [Act.put,qSa,qSb,qSc,qm,qq]
        rfl
       refine qw (i:=2) (N:=some 12) (v:=?_) (a':=?_) #[true,true,true,false,false,false,false,false,false,false,false,false,false,false,false,false,false,false,false,false,false,false,false,false,false,false,false,false,false,false,false,false,false,false,false] rfl rfl (qn HT_.out (by kernel_rfl)) (fun _ _ _ h=>h) (Or.inl ⟨by rfl,?_⟩) ?_ ?_;rotate_left
       ·intro w'
        go_simp
        with_reducible rfl
       rotate_left
       ·simp only [Act.put,qSa,qSb,qSc,qm,qq]
        rfl
       refine qw (i:=3) (N:=some 13) (v:=?_) (a':=?_) #[true,true,true,true,false,false,false,false,false,false,false,false,false,false,false,false,false,false,false,false,false,false,false,false,false,false,false,false,false,false,false,false,false,false,false] rfl rfl (qn HT_.out (by kernel_rfl)) (fun _ _ _ h=>h) (Or.inl ⟨by rfl,?_⟩) ?_ ?_;rotate_left
       ·intro w'
        go_simp
        with_reducible rfl
       rotate_left
       ·simp only [Act.put,qSa,qSb,qSc,qm,qq]
        rfl
       refine qw (i:=4) (N:=some 14) (v:=?_) (a':=?_) #[true,true,true,true,true,false,false,false,false,false,false,false,false,false,false,false,false,false,false,false,false,false,false,false,false,false,false,false,false,false,false,false,false,false,false] rfl rfl (qn HT_.out (by kernel_rfl)) (fun _ _ _ h=>h) (Or.inl ⟨by rfl,?_⟩) ?_ ?_;rotate_left
       ·intro w'
        go_simp
        with_reducible rfl
       rotate_left
       ·simp only [Act.put,qSa,qSb,qSc,qm,qq]
        rfl
       refine qw (i:=6) (N:=some 16) (v:=?_) (a':=?_) #[true,true,true,true,true,false,true,false,false,false,false,false,false,false,false,false,false,false,false,false,false,false,false,false,false,false,false,false,false,false,false,false,false,false,false] rfl rfl (qn HT_.out (by kernel_rfl)) (fun _ _ _ h=>h) (Or.inl ⟨by rfl,?_⟩) ?_ ?_;rotate_left
       ·intro w'
        go_simp
        with_reducible rfl
       rotate_left
       ·simp only [Act.put,qSa,qSb,qSc,qm,qq]
        rfl
       refine qw (i:=7) (N:=some 17) (v:=?_) (a':=?_) #[true,true,true,true,true,false,true,true,false,false,false,false,false,false,false,false,false,false,false,false,false,false,false,false,false,false,false,false,false,false,false,false,false,false,false] rfl rfl (qn HT_.out (by kernel_rfl)) (fun _ _ _ h=>h) (Or.inl ⟨by rfl,?_⟩) ?_ ?_;rotate_left
       ·intro w'
        go_simp
        with_reducible rfl
       rotate_left
       ·simp only [Act.put,qSa,qSb,qSc,qm,qq]
        rfl
       refine qw (i:=8) (N:=some 18) (v:=?_) (a':=?_) #[true,true,true,true,true,false,true,true,true,false,false,false,false,false,false,false,false,false,false,false,false,false,false,false,false,false,false,false,false,false,false,false,false,false,false] rfl rfl (qn HT_.out (by kernel_rfl)) (fun _ _ _ h=>h) (Or.inl ⟨by rfl,?_⟩) ?_ ?_;rotate_left
       ·intro w'
        go_simp
        with_reducible rfl
       rotate_left
       ·simp only [Act.put,qSa,qSb,qSc,qm,qq]
        rfl
       refine qw (i:=9) (N:=some 19) (v:=?_) (a':=?_) #[true,true,true,true,true,false,true,true,true,true,false,false,false,false,false,false,false,false,false,false,false,false,false,false,false,false,false,false,false,false,false,false,false,false,false] rfl rfl (qn HT_.out (by kernel_rfl)) (fun _ _ _ h=>h) (Or.inl ⟨by rfl,?_⟩) ?_ ?_;rotate_left
       ·intro w'
        go_simp
        with_reducible rfl
       rotate_left
       ·simp only [Act.put,qSa,qSb,qSc,qm,qq]
        rfl
       refine vZ (i:=5) (N:=some 15) (v:=?_) (a':=?_) #[true,true,true,true,true,true,true,true,true,true,false,false,false,false,false,false,false,false,false,false,false,false,false,false,false,false,false,false,false,false,false,false,false,false,false] rfl rfl (vu HT_.out HW_.out (by kernel_rfl)) (fun _ _ _ h=>h) (Or.inl ⟨by rfl,?_⟩) hHeld ?_ ?_;rotate_left
       ·rintro w' ⟨s0,s1,s2,s3,s4,s5,s6,s7,s8,s9,s10,s11,s12,s13,s14,s15,s16,s17,s18,s19,s20,s21,s22,s23,s24,s25,s26,s27,s28,s29,s30,s31⟩
        go_simp
        with_reducible rfl
       rotate_left
       ·simp only [Act.put,qSa,qSb,qSc,qm,qq]
        rfl
       refine vZ (i:=10) (N:=some 20) (v:=?_) (a':=?_) #[true,true,true,true,true,true,true,true,true,true,true,false,false,false,false,false,false,false,false,false,false,false,false,false,false,false,false,false,false,false,false,false,false,false,false] rfl rfl (vu HT_.out HW_.out (by kernel_rfl)) (fun _ _ _ h=>h) (Or.inl ⟨by rfl,?_⟩) hHeld ?_ ?_;rotate_left
       ·rintro w' ⟨s0,s1,s2,s3,s4,s5,s6,s7,s8,s9,s10,s11,s12,s13,s14,s15,s16,s17,s18,s19,s20,s21,s22,s23,s24,s25,s26,s27,s28,s29,s30,s31⟩
        go_simp
        with_reducible rfl
       rotate_left
       ·simp only [Act.put,qSa,qSb,qSc,qm,qq]
        rfl
       refine qw (i:=11) (N:=some 21) (v:=?_) (a':=?_) #[true,true,true,true,true,true,true,true,true,true,true,true,false,false,false,false,false,false,false,false,false,false,false,false,false,false,false,false,false,false,false,false,false,false,false] rfl rfl (qn HT_.out (by kernel_rfl)) (fun _ _ _ h=>h) (Or.inl ⟨by rfl,?_⟩) ?_ ?_;rotate_left
       ·intro w'
        go_simp
        with_reducible rfl
       rotate_left
       ·simp only [Act.put,qSa,qSb,qSc,qm,qq]
        rfl
       refine qw (i:=12) (N:=some 22) (v:=?_) (a':=?_) #[true,true,true,true,true,true,true,true,true,true,true,true,true,false,false,false,false,false,false,false,false,false,false,false,false,false,false,false,false,false,false,false,false,false,false] rfl rfl (qn HT_.out (by kernel_rfl)) (fun _ _ _ h=>h) (Or.inl ⟨by rfl,?_⟩) ?_ ?_;rotate_left
       ·intro w'
        go_simp
        with_reducible rfl
       rotate_left
       ·simp only [Act.put,qSa,qSb,qSc,qm,qq]
        rfl
       refine qw (i:=13) (N:=some 23) (v:=?_) (a':=?_) #[true,true,true,true,true,true,true,true,true,true,true,true,true,true,false,false,false,false,false,false,false,false,false,false,false,false,false,false,false,false,false,false,false,false,false] rfl rfl (qn HT_.out (by kernel_rfl)) (fun _ _ _ h=>h) (Or.inl ⟨by rfl,?_⟩) ?_ ?_;rotate_left
       ·intro w'
        go_simp
        with_reducible rfl
       rotate_left
       ·simp only [Act.put,qSa,qSb,qSc,qm,qq]
        rfl
       refine qw (i:=14) (N:=some 24) (v:=?_) (a':=?_) #[true,true,true,true,true,true,true,true,true,true,true,true,true,true,true,false,false,false,false,false,false,false,false,false,false,false,false,false,false,false,false,false,false,false,false] rfl rfl (qn HT_.out (by kernel_rfl)) (fun _ _ _ h=>h) (Or.inl ⟨by rfl,?_⟩) ?_ ?_;rotate_left
       ·intro w'
        go_simp
        with_reducible rfl
       rotate_left
       ·simp only [Act.put,qSa,qSb,qSc,qm,qq]
        rfl
       refine qw (i:=15) (N:=some 25) (v:=?_) (a':=?_) #[true,true,true,true,true,true,true,true,true,true,true,true,true,true,true,true,false,false,false,false,false,false,false,false,false,false,false,false,false,false,false,false,false,false,false] rfl rfl (qn HT_.out (by kernel_rfl)) (fun _ _ _ h=>h) (Or.inl ⟨by rfl,?_⟩) ?_ ?_;rotate_left
       ·intro w'
        go_simp
        with_reducible rfl
       rotate_left
       ·simp only [Act.put,qSa,qSb,qSc,qm,qq]
        rfl
       refine qw (i:=16) (N:=some 26) (v:=?_) (a':=?_) #[true,true,true,true,true,true,true,true,true,true,true,true,true,true,true,true,true,false,false,false,false,false,false,false,false,false,false,false,false,false,false,false,false,false,false] rfl rfl (qn HT_.out (by kernel_rfl)) (fun _ _ _ h=>h) (Or.inl ⟨by rfl,?_⟩) ?_ ?_;rotate_left
       ·intro w'
        go_simp
        with_reducible rfl
       rotate_left
       ·simp only [Act.put,qSa,qSb,qSc,qm,qq]
        rfl
       refine qw (i:=17) (N:=some 27) (v:=?_) (a':=?_) #[true,true,true,true,true,true,true,true,true,true,true,true,true,true,true,true,true,true,false,false,false,false,false,false,false,false,false,false,false,false,false,false,false,false,false] rfl rfl (qn HT_.out (by kernel_rfl)) (fun _ _ _ h=>h) (Or.inl ⟨by rfl,?_⟩) ?_ ?_;rotate_left
       ·intro w'
        go_simp
        with_reducible rfl
       rotate_left
       ·simp only [Act.put,qSa,qSb,qSc,qm,qq]
        rfl
       refine qw (i:=19) (N:=some 29) (v:=?_) (a':=?_) #[true,true,true,true,true,true,true,true,true,true,true,true,true,true,true,true,true,true,false,true,false,false,false,false,false,false,false,false,false,false,false,false,false,false,false] rfl rfl (qn HT_.out (by kernel_rfl)) (fun _ _ _ h=>h) (Or.inl ⟨by rfl,?_⟩) ?_ ?_;rotate_left
       ·intro w'
        go_simp
        with_reducible rfl
       rotate_left
       ·simp only [Act.put,qSa,qSb,qSc,qm,qq]
        rfl
       refine qw (i:=20) (N:=some 30) (v:=?_) (a':=?_) #[true,true,true,true,true,true,true,true,true,true,true,true,true,true,true,true,true,true,false,true,true,false,false,false,false,false,false,false,false,false,false,false,false,false,false] rfl rfl (qn HT_.out (by kernel_rfl)) (fun _ _ _ h=>h) (Or.inl ⟨by rfl,?_⟩) ?_ ?_;rotate_left
       ·intro w'
        go_simp
        with_reducible rfl
       rotate_left
       ·simp only [Act.put,qSa,qSb,qSc,qm,qq]
        rfl
       refine qw (i:=21) (N:=some 31) (v:=?_) (a':=?_) #[true,true,true,true,true,true,true,true,true,true,true,true,true,true,true,true,true,true,false,true,true,true,false,false,false,false,false,false,false,false,false,false,false,false,false] rfl rfl (qn HT_.out (by kernel_rfl)) (fun _ _ _ h=>h) (Or.inl ⟨by rfl,?_⟩) ?_ ?_;rotate_left
       ·intro w'
        go_simp
        with_reducible rfl
       rotate_left
       ·simp only [Act.put,qSa,qSb,qSc,qm,qq]
        rfl
       refine qw (i:=22) (N:=some 32) (v:=?_) (a':=?_) #[true,true,true,true,true,true,true,true,true,true,true,true,true,true,true,true,true,true,false,true,true,true,true,false,false,false,false,false,false,false,false,false,false,false,false] rfl rfl (qn HT_.out (by kernel_rfl)) (fun _ _ _ h=>h) (Or.inl ⟨by rfl,?_⟩) ?_ ?_;rotate_left
       ·intro w'
        go_simp
        with_reducible rfl
       rotate_left
       ·simp only [Act.put,qSa,qSb,qSc,qm,qq]
        rfl
       refine vZ (i:=18) (N:=some 28) (v:=?_) (a':=?_) #[true,true,true,true,true,true,true,true,true,true,true,true,true,true,true,true,true,true,true,true,true,true,true,false,false,false,false,false,false,false,false,false,false,false,false] rfl rfl (vu HT_.out HW_.out (by kernel_rfl)) (fun _ _ _ h=>h) (Or.inl ⟨by rfl,?_⟩) hHeld ?_ ?_;rotate_left
       ·rintro w' ⟨s0,s1,s2,s3,s4,s5,s6,s7,s8,s9,s10,s11,s12,s13,s14,s15,s16,s17,s18,s19,s20,s21,s22,s23,s24,s25,s26,s27,s28,s29,s30,s31⟩
        go_simp
        with_reducible rfl
       rotate_left
       ·simp only [Act.put,qSa,qSb,qSc,qm,qq]
        rfl
       refine vZ (i:=23) (N:=some 33) (v:=?_) (a':=?_) #[true,true,true,true,true,true,true,true,true,true,true,true,true,true,true,true,true,true,true,true,true,true,true,true,false,false,false,false,false,false,false,false,false,false,false] rfl rfl (vu HT_.out HW_.out (by kernel_rfl)) (fun _ _ _ h=>h) (Or.inl ⟨by rfl,?_⟩) hHeld ?_ ?_;rotate_left
       ·rintro w' ⟨s0,s1,s2,s3,s4,s5,s6,s7,s8,s9,s10,s11,s12,s13,s14,s15,s16,s17,s18,s19,s20,s21,s22,s23,s24,s25,s26,s27,s28,s29,s30,s31⟩
        go_simp
        with_reducible rfl
       rotate_left
       ·simp only [Act.put,qSa,qSb,qSc,qm,qq]
        rfl
       refine qw (i:=24) (N:=some 34) (v:=?_) (a':=?_) #[true,true,true,true,true,true,true,true,true,true,true,true,true,true,true,true,true,true,true,true,true,true,true,true,true,false,false,false,false,false,false,false,false,false,false] rfl rfl (qn HT_.out (by kernel_rfl)) (fun _ _ _ h=>h) (Or.inl ⟨by rfl,?_⟩) ?_ ?_;rotate_left
       ·intro w'
        go_simp
        with_reducible rfl
       rotate_left
       ·simp only [Act.put,qSa,qSb,qSc,qm,qq]
        rfl
       refine qw (i:=25) (N:=some 35) (v:=?_) (a':=?_) #[true,true,true,true,true,true,true,true,true,true,true,true,true,true,true,true,true,true,true,true,true,true,true,true,true,true,false,false,false,false,false,false,false,false,false] rfl rfl (qn HT_.out (by kernel_rfl)) (fun _ _ _ h=>h) (Or.inl ⟨by rfl,?_⟩) ?_ ?_;rotate_left
       ·intro w'
        go_simp
        with_reducible rfl
       rotate_left
       ·simp only [Act.put,qSa,qSb,qSc,qm,qq]
        rfl
       refine qw (i:=26) (N:=some 36) (v:=?_) (a':=?_) #[true,true,true,true,true,true,true,true,true,true,true,true,true,true,true,true,true,true,true,true,true,true,true,true,true,true,true,false,false,false,false,false,false,false,false] rfl rfl (qn HT_.out (by kernel_rfl)) (fun _ _ _ h=>h) (Or.inl ⟨by rfl,?_⟩) ?_ ?_;rotate_left
       ·intro w'
        go_simp
        with_reducible rfl
       rotate_left
       ·simp only [Act.put,qSa,qSb,qSc,qm,qq]
        rfl
       refine qw (i:=27) (N:=some 37) (v:=undef) (a':=?_) #[true,true,true,true,true,true,true,true,true,true,true,true,true,true,true,true,true,true,true,true,true,true,true,true,true,true,true,true,false,false,false,false,false,false,false] rfl rfl (qn HT_.out (by kernel_rfl)) (fun _ _ _ h=>h) (Or.inr ⟨by rfl,rfl⟩) ?_ ?_;rotate_left
       ·simp only [Act.put,qSa,qSb,qSc,qm,qq]
        rfl
       refine qw (i:=28) (N:=some 38) (v:=undef) (a':=?_) #[true,true,true,true,true,true,true,true,true,true,true,true,true,true,true,true,true,true,true,true,true,true,true,true,true,true,true,true,true,false,false,false,false,false,false] rfl rfl (qn HT_.out (by kernel_rfl)) (fun _ _ _ h=>h) (Or.inr ⟨by rfl,rfl⟩) ?_ ?_;rotate_left
       ·simp only [Act.put,qSa,qSb,qSc,qm,qq]
        rfl
       refine qw (i:=29) (N:=some 39) (v:=undef) (a':=?_) #[true,true,true,true,true,true,true,true,true,true,true,true,true,true,true,true,true,true,true,true,true,true,true,true,true,true,true,true,true,true,false,false,false,false,false] rfl rfl (qn HT_.out (by kernel_rfl)) (fun _ _ _ h=>h) (Or.inr ⟨by rfl,rfl⟩) ?_ ?_;rotate_left
       ·simp only [Act.put,qSa,qSb,qSc,qm,qq]
        rfl
       refine qw (i:=30) (N:=some 40) (v:=undef) (a':=?_) #[true,true,true,true,true,true,true,true,true,true,true,true,true,true,true,true,true,true,true,true,true,true,true,true,true,true,true,true,true,true,true,false,false,false,false] rfl rfl (qn HT_.out (by kernel_rfl)) (fun _ _ _ h=>h) (Or.inr ⟨by rfl,rfl⟩) ?_ ?_;rotate_left
       ·simp only [Act.put,qSa,qSb,qSc,qm,qq]
        rfl
       refine qw (i:=31) (N:=some 41) (v:=undef) (a':=?_) #[true,true,true,true,true,true,true,true,true,true,true,true,true,true,true,true,true,true,true,true,true,true,true,true,true,true,true,true,true,true,true,true,false,false,false] rfl rfl (qn HT_.out (by kernel_rfl)) (fun _ _ _ h=>h) (Or.inr ⟨by rfl,rfl⟩) ?_ ?_;rotate_left
       ·simp only [Act.put,qSa,qSb,qSc,qm,qq]
        rfl
       refine qw (i:=32) (N:=some 42) (v:=undef) (a':=?_) #[true,true,true,true,true,true,true,true,true,true,true,true,true,true,true,true,true,true,true,true,true,true,true,true,true,true,true,true,true,true,true,true,true,false,false] rfl rfl (qn HT_.out (by kernel_rfl)) (fun _ _ _ h=>h) (Or.inr ⟨by rfl,rfl⟩) ?_ ?_;rotate_left
       ·simp only [Act.put,qSa,qSb,qSc,qm,qq]
        rfl
       refine qw (i:=33) (N:=some 43) (v:=undef) (a':=?_) #[true,true,true,true,true,true,true,true,true,true,true,true,true,true,true,true,true,true,true,true,true,true,true,true,true,true,true,true,true,true,true,true,true,true,false] rfl rfl (qn HT_.out (by kernel_rfl)) (fun _ _ _ h=>h) (Or.inr ⟨by rfl,rfl⟩) ?_ ?_;rotate_left
       ·simp only [Act.put,qSa,qSb,qSc,qm,qq]
        rfl
       refine qw (i:=34) (N:=some 44) (v:=?_) (a':=?_) #[true,true,true,true,true,true,true,true,true,true,true,true,true,true,true,true,true,true,true,true,true,true,true,true,true,true,true,true,true,true,true,true,true,true,true] rfl rfl (qn HT_.out (by kernel_rfl)) (fun _ _ _ h=>h) (Or.inl ⟨by rfl,?_⟩) ?_ ?_;rotate_left
       ·intro w'
        go_simp
        with_reducible rfl
       rotate_left
       ·simp only [Act.put,qSa,qSb,qSc,qm,qq]
        rfl
       refine jn (zK HT_.out (by kernel_rfl)) ?_;try go_wp2
       go_ret
       exact⟨by first|rfl|(simp [qK,qL] <;> rfl)|(simp [*,qK,qL] <;> rfl),by repeat(first|(with_reducible first|exact HB.out|apply qd|apply qa|apply qc)|exact HB.out)⟩
     ·rw [if_neg c4] at H
      have c4b0 : (((qf l0 Aa).f2.f0) == ((qf l0 Aa).f0))=false:=beq_eq_false_iff_ne.mpr c4;have c4b1 : (((qf l0 Aa).f2.f0) != ((qf l0 Aa).f0))=true:=bne_iff_ne.mpr c4;obtain rfl:=Option.some.inj H;try go_wp2
      have AX:=qb.mk (qc HB.out);clear HB;have HB:=AX;clear AX;have p250 : 0≤(Aa : Int):=of_decide_eq_true (by first|(with_reducible assumption)|assumption);have q250 : Aa<(l0.length : Int):=of_decide_eq_true (by first|(with_reducible assumption)|assumption);obtain⟨ad250,e250,Ab,Ac,Ad,Ae,Af,Ag,Ah,Ai⟩:=zp HR0.out Aa p250 q250;have hw250_7:=Ai;have hw250_6:=Ah;have hw250_5:=Ag;have hw250_4:=Af;have hw250_3:=Ae;have hw250_2:=Ad;have hw250_1:=Ac;have hw250_0:=Ab
      cases e250
      replace Ab:=(HB.out.cell (World.block_lt_of_cell? w _ Ab)).trans Ab;replace Ac:=(HB.out.cell (World.block_lt_of_cell? w _ Ac)).trans Ac;replace Ad:=(HB.out.cell (World.block_lt_of_cell? w _ Ad)).trans Ad;replace Ae:=(HB.out.cell (World.block_lt_of_cell? w _ Ae)).trans Ae;replace Af:=(HB.out.cell (World.block_lt_of_cell? w _ Af)).trans Af;replace Ag:=(HB.out.cell (World.block_lt_of_cell? w _ Ag)).trans Ag;replace Ah:=(HB.out.cell (World.block_lt_of_cell? w _ Ah)).trans Ah;replace Ai:=(HB.out.cell (World.block_lt_of_cell? w _ Ai)).trans Ai;replace p250:=eq_true p250;replace q250:=eq_true q250;have p251 : 0≤(Aa : Int):=of_decide_eq_true (by first|(with_reducible assumption)|assumption);have q251 : Aa<(l0.length : Int):=of_decide_eq_true (by first|(with_reducible assumption)|assumption);obtain⟨ad251,e251,Aj,Ak,Am,Ao,Ap,Aq,Ar,As⟩:=zp HR0.out Aa p251 q251;have hw251_7:=As;have hw251_6:=Ar;have hw251_5:=Aq;have hw251_4:=Ap;have hw251_3:=Ao;have hw251_2:=Am;have hw251_1:=Ak;have hw251_0:=Aj;obtain rfl : ad250=ad251:=(by injection e251);replace Aj:=(HB.out.cell (World.block_lt_of_cell? w _ Aj)).trans Aj;replace Ak:=(HB.out.cell (World.block_lt_of_cell? w _ Ak)).trans Ak;replace Am:=(HB.out.cell (World.block_lt_of_cell? w _ Am)).trans Am;replace Ao:=(HB.out.cell (World.block_lt_of_cell? w _ Ao)).trans Ao;replace Ap:=(HB.out.cell (World.block_lt_of_cell? w _ Ap)).trans Ap;replace Aq:=(HB.out.cell (World.block_lt_of_cell? w _ Aq)).trans Aq;replace Ar:=(HB.out.cell (World.block_lt_of_cell? w _ Ar)).trans Ar;replace As:=(HB.out.cell (World.block_lt_of_cell? w _ As)).trans As;replace p251:=eq_true p251;replace q251:=eq_true q251;refine zS (n:=35) (S:=fun w'=>w'.cell? (ad250.add ((Aa).toNat * 8))=some (.int .i64 ((qf l0 Aa).f0))∧w'.cell? ⟨(ad250.add ((Aa).toNat * 8)).block,(ad250.add ((Aa).toNat * 8)).off + 1,none⟩=some (.int .i64 ((qf l0 Aa).f1))∧w'.cell? ⟨(ad250.add ((Aa).toNat * 8)).block,(ad250.add ((Aa).toNat * 8)).off + 2,none⟩=some (.int .i64 ((qf l0 Aa).f2.f0))∧w'.cell? ⟨(ad250.add ((Aa).toNat * 8)).block,(ad250.add ((Aa).toNat * 8)).off + 3,none⟩=some (.int .i64 ((qf l0 Aa).f2.f1))∧w'.cell? ⟨(ad250.add ((Aa).toNat * 8)).block,(ad250.add ((Aa).toNat * 8)).off + 4,none⟩=some (.int .i64 ((qf l0 Aa).f2.f2))∧w'.cell? ⟨(ad250.add ((Aa).toNat * 8)).block,(ad250.add ((Aa).toNat * 8)).off + 5,none⟩=some (.bool ((qf l0 Aa).f2.f3))∧w'.cell? ⟨(ad250.add ((Aa).toNat * 8)).block,(ad250.add ((Aa).toNat * 8)).off + 6,none⟩=some (.string ((qf l0 Aa).f2.f4))∧w'.cell? ⟨(ad250.add ((Aa).toNat * 8)).block,(ad250.add ((Aa).toNat * 8)).off + 7,none⟩=some (.int .i64 ((qf l0 Aa).f2.f5))∧w'.cell? (ad250.add ((Aa).toNat * 8))=some (.int .i64 ((qf l0 Aa).f0))∧w'.cell? ⟨(ad250.add ((Aa).toNat * 8)).block,(ad250.add ((Aa).toNat * 8)).off + 1,none⟩=some (.int .i64 ((qf l0 Aa).f1))∧w'.cell? ⟨(ad250.add ((Aa).toNat * 8)).block,(ad250.add ((Aa).toNat * 8)).off + 2,none⟩=some (.int .i64 ((qf l0 Aa).f2.f0))∧w'.cell? ⟨(ad250.add ((Aa).toNat * 8)).block,(ad250.add ((Aa).toNat * 8)).off + 3,none⟩=some (.int .i64 ((qf l0 Aa).f2.f1))∧w'.cell? ⟨(ad250.add ((Aa).toNat * 8)).block,(ad250.add ((Aa).toNat * 8)).off + 4,none⟩=some (.int .i64 ((qf l0 Aa).f2.f2))∧w'.cell? ⟨(ad250.add ((Aa).toNat * 8)).block,(ad250.add ((Aa).toNat * 8)).off + 5,none⟩=some (.bool ((qf l0 Aa).f2.f3))∧w'.cell? ⟨(ad250.add ((Aa).toNat * 8)).block,(ad250.add ((Aa).toNat * 8)).off + 6,none⟩=some (.string ((qf l0 Aa).f2.f4))∧w'.cell? ⟨(ad250.add ((Aa).toNat * 8)).block,(ad250.add ((Aa).toNat * 8)).off + 7,none⟩=some (.int .i64 ((qf l0 Aa).f2.f5))) (ds:=[]) #[false,false,false,false,false,false,false,false,false,false,false,false,false,false,false,false,false,false,false,false,false,false,false,false,false,false,false,false,false,false,false,false,false,false,false] (by kernel_rfl) rfl rfl ⟨((HB.out.cell (World.block_lt_of_cell? w _ hw250_0)).trans hw250_0),((HB.out.cell (World.block_lt_of_cell? w _ hw250_1)).trans hw250_1),((HB.out.cell (World.block_lt_of_cell? w _ hw250_2)).trans hw250_2),((HB.out.cell (World.block_lt_of_cell? w _ hw250_3)).trans hw250_3),((HB.out.cell (World.block_lt_of_cell? w _ hw250_4)).trans hw250_4),((HB.out.cell (World.block_lt_of_cell? w _ hw250_5)).trans hw250_5),((HB.out.cell (World.block_lt_of_cell? w _ hw250_6)).trans hw250_6),((HB.out.cell (World.block_lt_of_cell? w _ hw250_7)).trans hw250_7),((HB.out.cell (World.block_lt_of_cell? w _ hw251_0)).trans hw251_0),((HB.out.cell (World.block_lt_of_cell? w _ hw251_1)).trans hw251_1),((HB.out.cell (World.block_lt_of_cell? w _ hw251_2)).trans hw251_2),((HB.out.cell (World.block_lt_of_cell? w _ hw251_3)).trans hw251_3),((HB.out.cell (World.block_lt_of_cell? w _ hw251_4)).trans hw251_4),((HB.out.cell (World.block_lt_of_cell? w _ hw251_5)).trans hw251_5),((HB.out.cell (World.block_lt_of_cell? w _ hw251_6)).trans hw251_6),((HB.out.cell (World.block_lt_of_cell? w _ hw251_7)).trans hw251_7)⟩ (fun hHeld=>?_);refine zu qA.tab4 qA.bits4 (fun HT_ HW_=>?_)
      generalize wr.drew=w13 at HB Ab Ac Ad Ae Af Ag Ah Ai Aj Ak Am Ao Ap Aq Ar As hHeld ⊢
      refine qw (i:=0) (N:=some 10) (v:=?_) (a':=?_) #[true,false,false,false,false,false,false,false,false,false,false,false,false,false,false,false,false,false,false,false,false,false,false,false,false,false,false,false,false,false,false,false,false,false,false] rfl rfl (qn HT_.out (by kernel_rfl)) (fun _ _ _ h=>h) (Or.inl ⟨by rfl,?_⟩) ?_ ?_;rotate_left
      ·intro w'
       go_simp
       with_reducible rfl
      rotate_left
      ·simp only [Act.put,qSa,qSb,qSc,qm,qq]
       rfl
      refine qw (i:=1) (N:=some 11) (v:=?_) (a':=?_) #[true,true,false,false,false,false,false,false,false,false,false,false,false,false,false,false,false,false,false,false,false,false,false,false,false,false,false,false,false,false,false,false,false,false,false] rfl rfl (qn HT_.out (by kernel_rfl)) (fun _ _ _ h=>h) (Or.inl ⟨by rfl,?_⟩) ?_ ?_;rotate_left
      ·intro w'
       go_simp
       with_reducible rfl
      rotate_left
      ·simp only [Act.put,qSa,qSb,qSc,qm,qq]
       rfl
      refine qw (i:=2) (N:=some 12) (v:=?_) (a':=?_) #[true,true,true,false,false,false,false,false,false,false,false,false,false,false,false,false,false,false,false,false,false,false,false,false,false,false,false,false,false,false,false,false,false,false,false] rfl rfl (qn HT_.out (by kernel_rfl)) (fun _ _ _ h=>h) (Or.inl ⟨by rfl,?_⟩) ?_ ?_;rotate_left
      ·intro w'
       go_simp
       with_reducible rfl
      rotate_left
      ·simp only [Act.put,qSa,qSb,qSc,qm,qq]
       rfl
      refine qw (i:=3) (N:=some 13) (v:=?_) (a':=?_) #[true,true,true,true,false,false,false,false,false,false,false,false,false,false,false,false,false,false,false,false,false,false,false,false,false,false,false,false,false,false,false,false,false,false,false] rfl rfl (qn HT_.out (by kernel_rfl)) (fun _ _ _ h=>h) (Or.inl ⟨by rfl,?_⟩) ?_ ?_;rotate_left
      ·intro w'
       go_simp
       with_reducible rfl
      rotate_left
      ·simp only [Act.put,qSa,qSb,qSc,qm,qq]
       rfl
      refine qw (i:=4) (N:=some 14) (v:=?_) (a':=?_) #[true,true,true,true,true,false,false,false,false,false,false,false,false,false,false,false,false,false,false,false,false,false,false,false,false,false,false,false,false,false,false,false,false,false,false] rfl rfl (qn HT_.out (by kernel_rfl)) (fun _ _ _ h=>h) (Or.inl ⟨by rfl,?_⟩) ?_ ?_;rotate_left
      ·intro w'
       go_simp
       with_reducible rfl
      rotate_left
      ·simp only [Act.put,qSa,qSb,qSc,qm,qq]
       rfl
      refine qw (i:=6) (N:=some 16) (v:=?_) (a':=?_) #[true,true,true,true,true,false,true,false,false,false,false,false,false,false,false,false,false,false,false,false,false,false,false,false,false,false,false,false,false,false,false,false,false,false,false] rfl rfl (qn HT_.out (by kernel_rfl)) (fun _ _ _ h=>h) (Or.inl ⟨by rfl,?_⟩) ?_ ?_;rotate_left
      ·intro w'
       go_simp
       with_reducible rfl
      rotate_left
      ·simp only [Act.put,qSa,qSb,qSc,qm,qq]
       rfl
      refine qw (i:=7) (N:=some 17) (v:=?_) (a':=?_) #[true,true,true,true,true,false,true,true,false,false,false,false,false,false,false,false,false,false,false,false,false,false,false,false,false,false,false,false,false,false,false,false,false,false,false] rfl rfl (qn HT_.out (by kernel_rfl)) (fun _ _ _ h=>h) (Or.inl ⟨by rfl,?_⟩) ?_ ?_;rotate_left
      ·intro w'
       go_simp
       with_reducible rfl
      rotate_left
      ·simp only [Act.put,qSa,qSb,qSc,qm,qq]
       rfl
      refine qw (i:=8) (N:=some 18) (v:=?_) (a':=?_) #[true,true,true,true,true,false,true,true,true,false,false,false,false,false,false,false,false,false,false,false,false,false,false,false,false,false,false,false,false,false,false,false,false,false,false] rfl rfl (qn HT_.out (by kernel_rfl)) (fun _ _ _ h=>h) (Or.inl ⟨by rfl,?_⟩) ?_ ?_;rotate_left
      ·intro w'
       go_simp
       with_reducible rfl
      rotate_left
      ·simp only [Act.put,qSa,qSb,qSc,qm,qq]
       rfl
      refine qw (i:=9) (N:=some 19) (v:=?_) (a':=?_) #[true,true,true,true,true,false,true,true,true,true,false,false,false,false,false,false,false,false,false,false,false,false,false,false,false,false,false,false,false,false,false,false,false,false,false] rfl rfl (qn HT_.out (by kernel_rfl)) (fun _ _ _ h=>h) (Or.inl ⟨by rfl,?_⟩) ?_ ?_;rotate_left
      ·intro w'
       go_simp
       with_reducible rfl
      rotate_left
      ·simp only [Act.put,qSa,qSb,qSc,qm,qq]
       rfl
      refine vZ (i:=5) (N:=some 15) (v:=?_) (a':=?_) #[true,true,true,true,true,true,true,true,true,true,false,false,false,false,false,false,false,false,false,false,false,false,false,false,false,false,false,false,false,false,false,false,false,false,false] rfl rfl (vu HT_.out HW_.out (by kernel_rfl)) (fun _ _ _ h=>h) (Or.inl ⟨by rfl,?_⟩) hHeld ?_ ?_;rotate_left
      ·rintro w' ⟨s0,s1,s2,s3,s4,s5,s6,s7,s8,s9,s10,s11,s12,s13,s14,s15⟩
       go_simp
       with_reducible rfl
      rotate_left
      ·simp only [Act.put,qSa,qSb,qSc,qm,qq]
       rfl
      refine vZ (i:=10) (N:=some 20) (v:=?_) (a':=?_) #[true,true,true,true,true,true,true,true,true,true,true,false,false,false,false,false,false,false,false,false,false,false,false,false,false,false,false,false,false,false,false,false,false,false,false] rfl rfl (vu HT_.out HW_.out (by kernel_rfl)) (fun _ _ _ h=>h) (Or.inl ⟨by rfl,?_⟩) hHeld ?_ ?_;rotate_left
      ·rintro w' ⟨s0,s1,s2,s3,s4,s5,s6,s7,s8,s9,s10,s11,s12,s13,s14,s15⟩
       go_simp
       with_reducible rfl
      rotate_left
      ·simp only [Act.put,qSa,qSb,qSc,qm,qq]
       rfl
      refine qw (i:=11) (N:=some 21) (v:=?_) (a':=?_) #[true,true,true,true,true,true,true,true,true,true,true,true,false,false,false,false,false,false,false,false,false,false,false,false,false,false,false,false,false,false,false,false,false,false,false] rfl rfl (qn HT_.out (by kernel_rfl)) (fun _ _ _ h=>h) (Or.inl ⟨by rfl,?_⟩) ?_ ?_;rotate_left
      ·intro w'
       go_simp
       with_reducible rfl
      rotate_left
      ·simp only [Act.put,qSa,qSb,qSc,qm,qq]
       rfl
      refine qw (i:=12) (N:=some 22) (v:=?_) (a':=?_) #[true,true,true,true,true,true,true,true,true,true,true,true,true,false,false,false,false,false,false,false,false,false,false,false,false,false,false,false,false,false,false,false,false,false,false] rfl rfl (qn HT_.out (by kernel_rfl)) (fun _ _ _ h=>h) (Or.inl ⟨by rfl,?_⟩) ?_ ?_;rotate_left
      ·intro w'
       go_simp
       with_reducible rfl
      rotate_left
      ·simp only [Act.put,qSa,qSb,qSc,qm,qq]
       rfl
      refine qw (i:=13) (N:=some 23) (v:=undef) (a':=?_) #[true,true,true,true,true,true,true,true,true,true,true,true,true,true,false,false,false,false,false,false,false,false,false,false,false,false,false,false,false,false,false,false,false,false,false] rfl rfl (qn HT_.out (by kernel_rfl)) (fun _ _ _ h=>h) (Or.inr ⟨by rfl,rfl⟩) ?_ ?_;rotate_left
      ·simp only [Act.put,qSa,qSb,qSc,qm,qq]
       rfl
      refine qw (i:=14) (N:=some 24) (v:=undef) (a':=?_) #[true,true,true,true,true,true,true,true,true,true,true,true,true,true,true,false,false,false,false,false,false,false,false,false,false,false,false,false,false,false,false,false,false,false,false] rfl rfl (qn HT_.out (by kernel_rfl)) (fun _ _ _ h=>h) (Or.inr ⟨by rfl,rfl⟩) ?_ ?_;rotate_left
      ·simp only [Act.put,qSa,qSb,qSc,qm,qq]
       rfl
      refine qw (i:=15) (N:=some 25) (v:=undef) (a':=?_) #[true,true,true,true,true,true,true,true,true,true,true,true,true,true,true,true,false,false,false,false,false,false,false,false,false,false,false,false,false,false,false,false,false,false,false] rfl rfl (qn HT_.out (by kernel_rfl)) (fun _ _ _ h=>h) (Or.inr ⟨by rfl,rfl⟩) ?_ ?_;rotate_left
      ·simp only [Act.put,qSa,qSb,qSc,qm,qq]
       rfl
      refine qw (i:=16) (N:=some 26) (v:=undef) (a':=?_) #[true,true,true,true,true,true,true,true,true,true,true,true,true,true,true,true,true,false,false,false,false,false,false,false,false,false,false,false,false,false,false,false,false,false,false] rfl rfl (qn HT_.out (by kernel_rfl)) (fun _ _ _ h=>h) (Or.inr ⟨by rfl,rfl⟩) ?_ ?_;rotate_left
      ·simp only [Act.put,qSa,qSb,qSc,qm,qq]
       rfl
      refine qw (i:=17) (N:=some 27) (v:=undef) (a':=?_) #[true,true,true,true,true,true,true,true,true,true,true,true,true,true,true,true,true,true,false,false,false,false,false,false,false,false,false,false,false,false,false,false,false,false,false] rfl rfl (qn HT_.out (by kernel_rfl)) (fun _ _ _ h=>h) (Or.inr ⟨by rfl,rfl⟩) ?_ ?_;rotate_left
      ·simp only [Act.put,qSa,qSb,qSc,qm,qq]
       rfl
      refine qw (i:=18) (N:=some 28) (v:=undef) (a':=?_) #[true,true,true,true,true,true,true,true,true,true,true,true,true,true,true,true,true,true,true,false,false,false,false,false,false,false,false,false,false,false,false,false,false,false,false] rfl rfl (qn HT_.out (by kernel_rfl)) (fun _ _ _ h=>h) (Or.inr ⟨by rfl,rfl⟩) ?_ ?_;rotate_left
      ·simp only [Act.put,qSa,qSb,qSc,qm,qq]
       rfl
      refine qw (i:=19) (N:=some 29) (v:=undef) (a':=?_) #[true,true,true,true,true,true,true,true,true,true,true,true,true,true,true,true,true,true,true,true,false,false,false,false,false,false,false,false,false,false,false,false,false,false,false] rfl rfl (qn HT_.out (by kernel_rfl)) (fun _ _ _ h=>h) (Or.inr ⟨by rfl,rfl⟩) ?_ ?_;rotate_left
      ·simp only [Act.put,qSa,qSb,qSc,qm,qq]
       rfl
      refine qw (i:=20) (N:=some 30) (v:=undef) (a':=?_) #[true,true,true,true,true,true,true,true,true,true,true,true,true,true,true,true,true,true,true,true,true,false,false,false,false,false,false,false,false,false,false,false,false,false,false] rfl rfl (qn HT_.out (by kernel_rfl)) (fun _ _ _ h=>h) (Or.inr ⟨by rfl,rfl⟩) ?_ ?_;rotate_left
      ·simp only [Act.put,qSa,qSb,qSc,qm,qq]
       rfl
      refine qw (i:=21) (N:=some 31) (v:=undef) (a':=?_) #[true,true,true,true,true,true,true,true,true,true,true,true,true,true,true,true,true,true,true,true,true,true,false,false,false,false,false,false,false,false,false,false,false,false,false] rfl rfl (qn HT_.out (by kernel_rfl)) (fun _ _ _ h=>h) (Or.inr ⟨by rfl,rfl⟩) ?_ ?_;rotate_left
      ·simp only [Act.put,qSa,qSb,qSc,qm,qq]
       rfl
      refine qw (i:=22) (N:=some 32) (v:=undef) (a':=?_) #[true,true,true,true,true,true,true,true,true,true,true,true,true,true,true,true,true,true,true,true,true,true,true,false,false,false,false,false,false,false,false,false,false,false,false] rfl rfl (qn HT_.out (by kernel_rfl)) (fun _ _ _ h=>h) (Or.inr ⟨by rfl,rfl⟩) ?_ ?_;rotate_left
      ·simp only [Act.put,qSa,qSb,qSc,qm,qq]
       rfl
      refine qw (i:=23) (N:=some 33) (v:=undef) (a':=?_) #[true,true,true,true,true,true,true,true,true,true,true,true,true,true,true,true,true,true,true,true,true,true,true,true,false,false,false,false,false,false,false,false,false,false,false] rfl rfl (qn HT_.out (by kernel_rfl)) (fun _ _ _ h=>h) (Or.inr ⟨by rfl,rfl⟩) ?_ ?_;rotate_left
      ·simp only [Act.put,qSa,qSb,qSc,qm,qq]
       rfl
      refine qw (i:=24) (N:=some 34) (v:=undef) (a':=?_) #[true,true,true,true,true,true,true,true,true,true,true,true,true,true,true,true,true,true,true,true,true,true,true,true,true,false,false,false,false,false,false,false,false,false,false] rfl rfl (qn HT_.out (by kernel_rfl)) (fun _ _ _ h=>h) (Or.inr ⟨by rfl,rfl⟩) ?_ ?_;rotate_left
      ·simp only [Act.put,qSa,qSb,qSc,qm,qq]
       rfl
      refine qw (i:=25) (N:=some 35) (v:=?_) (a':=?_) #[true,true,true,true,true,true,true,true,true,true,true,true,true,true,true,true,true,true,true,true,true,true,true,true,true,true,false,false,false,false,false,false,false,false,false] rfl rfl (qn HT_.out (by kernel_rfl)) (fun _ _ _ h=>h) (Or.inl ⟨by rfl,?_⟩) ?_ ?_;rotate_left
      ·intro w'
       go_simp
       with_reducible rfl
      rotate_left
      ·simp only [Act.put,qSa,qSb,qSc,qm,qq]
       rfl
      refine qw (i:=26) (N:=some 36) (v:=?_) (a':=?_) #[true,true,true,true,true,true,true,true,true,true,true,true,true,true,true,true,true,true,true,true,true,true,true,true,true,true,true,false,false,false,false,false,false,false,false] rfl rfl (qn HT_.out (by kernel_rfl)) (fun _ _ _ h=>h) (Or.inl ⟨by rfl,?_⟩) ?_ ?_;rotate_left
      ·intro w'
       go_simp
       with_reducible rfl
      rotate_left
      ·simp only [Act.put,qSa,qSb,qSc,qm,qq]
       rfl
      refine qw (i:=27) (N:=some 37) (v:=undef) (a':=?_) #[true,true,true,true,true,true,true,true,true,true,true,true,true,true,true,true,true,true,true,true,true,true,true,true,true,true,true,true,false,false,false,false,false,false,false] rfl rfl (qn HT_.out (by kernel_rfl)) (fun _ _ _ h=>h) (Or.inr ⟨by rfl,rfl⟩) ?_ ?_;rotate_left
      ·simp only [Act.put,qSa,qSb,qSc,qm,qq]
       rfl
      refine qw (i:=28) (N:=some 38) (v:=undef) (a':=?_) #[true,true,true,true,true,true,true,true,true,true,true,true,true,true,true,true,true,true,true,true,true,true,true,true,true,true,true,true,true,false,false,false,false,false,false] rfl rfl (qn HT_.out (by kernel_rfl)) (fun _ _ _ h=>h) (Or.inr ⟨by rfl,rfl⟩) ?_ ?_;rotate_left
      ·simp only [Act.put,qSa,qSb,qSc,qm,qq]
       rfl
      refine qw (i:=29) (N:=some 39) (v:=undef) (a':=?_) #[true,true,true,true,true,true,true,true,true,true,true,true,true,true,true,true,true,true,true,true,true,true,true,true,true,true,true,true,true,true,false,false,false,false,false] rfl rfl (qn HT_.out (by kernel_rfl)) (fun _ _ _ h=>h) (Or.inr ⟨by rfl,rfl⟩) ?_ ?_;rotate_left
      ·simp only [Act.put,qSa,qSb,qSc,qm,qq]
       rfl
      refine qw (i:=30) (N:=some 40) (v:=undef) (a':=?_) #[true,true,true,true,true,true,true,true,true,true,true,true,true,true,true,true,true,true,true,true,true,true,true,true,true,true,true,true,true,true,true,false,false,false,false] rfl rfl (qn HT_.out (by kernel_rfl)) (fun _ _ _ h=>h) (Or.inr ⟨by rfl,rfl⟩) ?_ ?_;rotate_left
      ·simp only [Act.put,qSa,qSb,qSc,qm,qq]
       rfl
      refine qw (i:=31) (N:=some 41) (v:=undef) (a':=?_) #[true,true,true,true,true,true,true,true,true,true,true,true,true,true,true,true,true,true,true,true,true,true,true,true,true,true,true,true,true,true,true,true,false,false,false] rfl rfl (qn HT_.out (by kernel_rfl)) (fun _ _ _ h=>h) (Or.inr ⟨by rfl,rfl⟩) ?_ ?_;rotate_left
      ·simp only [Act.put,qSa,qSb,qSc,qm,qq]
       rfl
      refine qw (i:=32) (N:=some 42) (v:=undef) (a':=?_) #[true,true,true,true,true,true,true,true,true,true,true,true,true,true,true,true,true,true,true,true,true,true,true,true,true,true,true,true,true,true,true,true,true,false,false] rfl rfl (qn HT_.out (by kernel_rfl)) (fun _ _ _ h=>h) (Or.inr ⟨by rfl,rfl⟩) ?_ ?_;rotate_left
      ·simp only [Act.put,qSa,qSb,qSc,qm,qq]
       rfl
      refine qw (i:=33) (N:=some 43) (v:=undef) (a':=?_) #[true,true,true,true,true,true,true,true,true,true,true,true,true,true,true,true,true,true,true,true,true,true,true,true,true,true,true,true,true,true,true,true,true,true,false] rfl rfl (qn HT_.out (by kernel_rfl)) (fun _ _ _ h=>h) (Or.inr ⟨by rfl,rfl⟩) ?_ ?_;rotate_left
      ·simp only [Act.put,qSa,qSb,qSc,qm,qq]
       rfl
      refine qw (i:=34) (N:=some 44) (v:=?_) (a':=?_) #[true,true,true,true,true,true,true,true,true,true,true,true,true,true,true,true,true,true,true,true,true,true,true,true,true,true,true,true,true,true,true,true,true,true,true] rfl rfl (qn HT_.out (by kernel_rfl)) (fun _ _ _ h=>h) (Or.inl ⟨by rfl,?_⟩) ?_ ?_;rotate_left
      ·intro w'
       go_simp
       with_reducible rfl
      rotate_left
      ·simp only [Act.put,qSa,qSb,qSc,qm,qq]
       rfl
      refine jn (zK HT_.out (by kernel_rfl)) ?_;try go_wp2
      go_ret
      exact⟨by first|rfl|(simp [qK,qL] <;> rfl)|(simp [*,qK,qL] <;> rfl),by repeat(first|(with_reducible first|exact HB.out|apply qd|apply qa|apply qc)|exact HB.out)⟩
    ·rw [if_neg c3] at H
     exact absurd H (by simp)
   ·rw [if_neg c2] at H
    have c2b0 : decide (Aa<(l0.length : Int))=false:=decide_eq_false c2;clear c2;replace H:=Option.bind_eq_some_iff.mp H;obtain⟨AY,A140,H⟩:=H;replace H : (some AY)=some r:=H;have A14:=qb.mk A140;clear A140;obtain rfl:=Option.some.inj H;go_wp2_with (first|((with_reducible refine vR (f:=82) rfl ?_);refine zx (some 46) rfl rfl Tryd.func82 (by kernel_rfl) rfl #[.slice A0 l0.length c0] rfl (by(try simp only [List.map_toArray,List.map_cons,List.map_nil]);first|done|rfl|(simp only [List.length_drop,List.length_take];rfl)) ?_;(with_reducible refine(qV.calls k1 _ _ l0 AY _ ?side1 ?side2 A14.out).mono ?_);(case side1=>repeat(first|exact(Kd.vk HR0.out HB.out)|(with_reducible refine Kd.qS ?_ _)|(with_reducible refine Kd.qU ?_ _)|(with_reducible refine Kd.vq ?_)));(case side2=>exact HC0.out);rintro e w' ⟨rfl,⟨nd,rfl⟩⟩;refine⟨_,rfl,?_⟩))
    go_ret
    exact⟨by first|rfl|(simp [qK,qL] <;> rfl)|(simp [*,qK,qL] <;> rfl),by repeat(first|(with_reducible first|exact HB.out|apply qd|apply qa|apply qc)|exact HB.out)⟩
end Go.Proofs.YtalpmbeddldfoaaDoor.PA
