import Derived.Test.YtalpmbeddldfoaaDoorF0
import Derived.Test.YtalpmbeddldfoaaDoorPChk1
import Derived.Test.YtalpmbeddldfoaaDoorFRunesVal
import Derived.Test.YtalpmbeddldfoaaDoorHandD
namespace Go.Proofs.YtalpmbeddldfoaaDoor.PA
open Go.RowKit Go.Proofs.YtalpmbeddldfoaaDoor.Hand Go.Proofs.YtalpmbeddldfoaaDoorW.PrintWords Go.Proofs.YtalpmbeddldfoaaDoorW.PrintLast Go.Proofs.YtalpmbeddldfoaaDoorW.PrintMore
attribute [local go_sem] vW vV zc zb vG vF vU vT
attribute [local go_sem high] za zd ze
set_option linter.unusedVariables false
set_option linter.unusedSimpArgs false
def qM.l0 : Nat→List (vP)→List (vP)→Int→Int→Option (Int)
 | 0,_,_,_,_=>none
 | k + 1,x0,x8,x9,Au=>if Au<x9 then(if 0≤Au then(if Au<(x8.length : Int) then(if Au > 0 then(if 0≤(wrap64 (Au - 1)) then(if(wrap64 (Au - 1))<(x0.length : Int) then(if((Op.bytesLess (((qj x0 (wrap64 (Au - 1))).f0).toList) (((qj x8 Au).f0).toList))=true) then((zi.f k ((qj x8 Au).f0)).bind fun Aw=>(if Aw=true then((vX.f k ((qj x8 Au).f1)).bind fun As=>(if As=true then(if((qj x8 Au).f2)=0 then(qM.l0 k x0 x8 x9 (wrap64 (Au + 1))) else(some 3)) else(some 3))) else(some 3))) else(some 3)) else(none)) else(none)) else((zi.f k ((qj x8 Au).f0)).bind fun Ax=>(if Ax=true then((vX.f k ((qj x8 Au).f1)).bind fun At=>(if At=true then(if((qj x8 Au).f2)=0 then(qM.l0 k x0 x8 x9 (wrap64 (Au + 1))) else(some 3)) else(some 3))) else(some 3)))) else(none)) else(none)) else(some 0)
def qM.f(k : Nat)(l0 : List (vP)) : Option (Int):=if(l0.length : Int) > 64 then(some 3) else(qM.l0 k l0 l0 (l0.length : Int) 0)
theorem qM.mono_l : ∀ k,(∀ y0 y1 y2 y3,qR (qM.l0 k y0 y1 y2 y3) (qM.l0 (k + 1) y0 y1 y2 y3))
 | 0=>fun _ _ _ _ r h=>by simp [qM.l0] at h
 | k + 1=>by
  have ih0:=qM.mono_l k
  ·intro y0 y1 y2 y3
   unfold qM.l0
   repeat' first
   | (with_reducible exact ih0 _ _ _ _)
   | (with_reducible exact zi.mono _ _)
   | (with_reducible exact vX.mono _ _)
   | (with_reducible exact qR.refl _)
   | (with_reducible exact qR.none _)
   | (with_reducible refine qR.ite ?_ ?_)
   | (with_reducible refine qR.bind ?_ (fun _=>?_))
   | exact ih0 _ _ _ _
   | exact zi.mono _ _
   | exact vX.mono _ _
   | exact qR.none _
   | refine qR.ite ?_ ?_
   | refine qR.bind ?_ (fun _=>?_)
theorem qM.mono : ∀ a0 k,qR (qM.f k a0) (qM.f (k + 1) a0):=by
 intro a0 k;have ih0:=qM.mono_l k;unfold qM.f
 repeat' first
  | (with_reducible exact ih0 _ _ _ _)
  | (with_reducible exact zi.mono _ _)
  | (with_reducible exact vX.mono _ _)
  | (with_reducible exact qR.refl _)
  | (with_reducible exact qR.none _)
  | (with_reducible refine qR.ite ?_ ?_)
  | (with_reducible refine qR.bind ?_ (fun _=>?_))
  | exact ih0 _ _ _ _
  | exact zi.mono _ _
  | exact vX.mono _ _
  | exact qR.none _
  | refine qR.ite ?_ ?_
  | refine qR.bind ?_ (fun _=>?_)
def qM.T6 : Bool × List (List Nat × List Nat):=(true,[([],[]),([0],[0]),([1],[1]),([2],[2]),([3,2],[2,3]),([2],[2]),([2],[2]),([6,2],[2,6]),([5,7,2],[2,5,7]),([8,2],[2,8]),([9,2],[2,9]),([4,10,2],[2,4,10]),([2,11],[2,11]),([12,2],[12]),([13],[13]),([14,13],[13,14]),([15,13,13],[13,15]),([16,13],[13,16]),([13,17],[13,17]),([18,16],[18]),([19],[19]),([20,19],[19,20]),([21,19,19],[19,21]),([22,19],[19,22]),([19,23],[19,23]),([24,22],[24]),([25],[25]),([26,25],[25,26]),([27,25],[25,27]),([25,28],[25,28])])
def qM.B6 : List Nat:=[0,1,3,7,15,7,7,71,231,487,999,2047,4095,8191,16383,32767,65535,131071,262143,524287,1048575,2097151,4194303,8388607,16777215,33554431,67108863,134217727,268435455,536870911]
theorem qM.tab6 : jA .any (opsOf Tryd.f49 6)=qM.T6:=by kernel_rfl
theorem qM.bits6 : Qd qM.T6.2 qM.B6=true:=by kernel_rfl
set_option maxHeartbeats 8000000 in
set_option maxRecDepth 100000 in
theorem qM.calls(k : Nat)(A0 : Option Addr)(c0 : Nat)(l0 : List (vP))(r : Int)(w : World)(hr0 : Kd.C zM w A0 l0.length l0)(hc0 : l0.length≤c0)(h : qM.f k l0=some r)(hT : Qp w) :
 Calls Tryd.prog 49 #[.slice A0 l0.length c0] w fun e w'=>e = .returned (.int .i64 r)∧Below w.heap.size w w':=by
 have HT:=qb.mk hT;clear hT;have hu50:=Tryd.underlying50;have HR0:=qb.mk hr0;have HC0:=qb.mk hc0;clear hr0 hc0;have HB:=qb.mk (Below.refl w.heap.size w);have H : (if(l0.length : Int) > 64 then(some 3) else(qM.l0 k l0 l0 (l0.length : Int) 0))=some r:=h;clear h;by_cases c2 : (l0.length : Int) > 64
 ·rw [if_pos c2] at H
  have c2b0 : decide (64<(l0.length : Int))=true:=decide_eq_true c2;have c2b1 : decide (64<l0.length)=true:=decide_eq_true (by omega);clear c2;obtain rfl:=Option.some.inj H;go_enter Tryd.func49,Tryd.ntmps49
  go_wp2
  go_ret
  exact⟨by first|rfl|(simp [qK,qL] <;> rfl)|(simp [*,qK,qL] <;> rfl),by repeat(first|(with_reducible first|exact HB.out|apply qd|apply qa|apply qc)|exact HB.out)⟩
 ·rw [if_neg c2] at H
  have c2b0 : decide (64<(l0.length : Int))=false:=decide_eq_false c2;have c2b1 : decide (64<l0.length)=false:=decide_eq_false (by omega);clear c2;have H':=qb.mk H;clear H;go_enter Tryd.func49,Tryd.ntmps49
  go_wp2
  go_loopg [10] k (fun kq v10 w'=>∃ (Aa : Int),v10 = .int .i64 Aa∧qb (qM.l0 kq l0 l0 (l0.length : Int) Aa=some r)∧qb (kq≤k)∧qb (Below w.heap.size w w'))
  case atStart=>exact⟨(0),(by first|rfl|(simp;done)|(simp [*];done)),H',⟨Nat.le_refl _⟩,⟨by repeat(first|(with_reducible first|exact HB.out|apply qd|apply qa|apply qc)|exact HB.out)⟩⟩
  case round=>
   clear H';try clear c2
   try clear c2b0
   try clear c2b1
   try clear p2
   obtain⟨Aa,rfl,HA,HK1,HB⟩:=hrel
   cases gk with
   | zero=>exact absurd HA.out (by simp [qM.l0])
   | succ k1=>
    have H:=HA.out;clear HA;simp only [qM.l0] at H;by_cases c3 : Aa<(l0.length : Int)
    ·rw [if_pos c3] at H
     have c3b0 : decide (Aa<(l0.length : Int))=true:=decide_eq_true c3;clear c3;by_cases c4 : 0≤Aa
     ·rw [if_pos c4] at H
      have c4b0 : decide (0≤Aa)=true:=decide_eq_true c4;clear c4;by_cases c5 : Aa<(l0.length : Int)
      ·rw [if_pos c5] at H
       have c5b0 : decide (Aa<(l0.length : Int))=true:=decide_eq_true c5;clear c5;by_cases c6 : Aa > 0
       ·rw [if_pos c6] at H
        have c6b0 : decide (0<Aa)=true:=decide_eq_true c6;clear c6;obtain⟨Ao,Av⟩ : ∃ j_ : Int,(wrap64 (Aa - 1))=j_:=⟨_,rfl⟩;replace H : (if 0≤(Ao) then(if(Ao)<(l0.length : Int) then(if((Op.bytesLess (((qj l0 (Ao)).f0).toList) (((qj l0 Aa).f0).toList))=true) then((zi.f k1 ((qj l0 Aa).f0)).bind fun Aw=>(if Aw=true then((vX.f k1 ((qj l0 Aa).f1)).bind fun As=>(if As=true then(if((qj l0 Aa).f2)=0 then(qM.l0 k1 l0 l0 (l0.length : Int) (wrap64 (Aa + 1))) else(some 3)) else(some 3))) else(some 3))) else(some 3)) else(none)) else(none))=some r:=by first|(rw [Av] at H;exact H)|(simp only [Av] at H ⊢;exact H)
        have hji7w : (IntKind.i64.wrap (Aa - 1))=Ao:=(qm _).trans Av;by_cases c8 : 0≤(Ao)
        ·rw [if_pos c8] at H
         have c8b0 : decide (0≤(Ao))=true:=decide_eq_true c8;clear c8;by_cases c9 : (Ao)<(l0.length : Int)
         ·rw [if_pos c9] at H
          have c9b0 : decide ((Ao)<(l0.length : Int))=true:=decide_eq_true c9;clear c9;by_cases c10 : ((Op.bytesLess (((qj l0 (Ao)).f0).toList) (((qj l0 Aa).f0).toList))=true)
          ·rw [if_pos c10] at H
           have c10b0 : (Op.bytesLess (((qj l0 (Ao)).f0).toList) (((qj l0 Aa).f0).toList))=true:=c10;clear c10;replace H:=Option.bind_eq_some_iff.mp H;obtain⟨Aw,A110,H⟩:=H;replace H : (if Aw=true then((vX.f k1 ((qj l0 Aa).f1)).bind fun As=>(if As=true then(if((qj l0 Aa).f2)=0 then(qM.l0 k1 l0 l0 (l0.length : Int) (wrap64 (Aa + 1))) else(some 3)) else(some 3))) else(some 3))=some r:=H;have A11:=qb.mk A110;clear A110;by_cases c12 : Aw=true
           ·subst c12
            have H1 : ((vX.f k1 ((qj l0 Aa).f1)).bind fun As=>(if As=true then(if((qj l0 Aa).f2)=0 then(qM.l0 k1 l0 l0 (l0.length : Int) (wrap64 (Aa + 1))) else(some 3)) else(some 3)))=some r:=by rw [if_pos rfl] at H;exact H
            clear H;have H:=H1;clear H1;replace H:=Option.bind_eq_some_iff.mp H;obtain⟨As,A130,H⟩:=H;replace H : (if As=true then(if((qj l0 Aa).f2)=0 then(qM.l0 k1 l0 l0 (l0.length : Int) (wrap64 (Aa + 1))) else(some 3)) else(some 3))=some r:=H;have A13:=qb.mk A130;clear A130;by_cases c14 : As=true
            ·subst c14
             have H1 : (if((qj l0 Aa).f2)=0 then(qM.l0 k1 l0 l0 (l0.length : Int) (wrap64 (Aa + 1))) else(some 3))=some r:=by rw [if_pos rfl] at H;exact H
             clear H;have H:=H1;clear H1;by_cases Ay : ((qj l0 Aa).f2)=0
             ·rw [if_pos Ay] at H
              have c15b0 : (((qj l0 Aa).f2) == 0)=true:=beq_iff_eq.mpr Ay;have c15b1 : (((qj l0 Aa).f2) != 0)=false:=bne_eq_false_iff_eq.mpr Ay;clear Ay;have H':=qb.mk H;clear H;have p178 : 0≤(Aa : Int):=of_decide_eq_true (by first|(with_reducible assumption)|assumption);have q178 : Aa<(l0.length : Int):=of_decide_eq_true (by first|(with_reducible assumption)|assumption);obtain⟨ad178,e178,Ad,Ae,Af⟩:=vY HR0.out Aa p178 q178
              cases e178
              replace Ad:=(HB.out.cell (World.block_lt_of_cell? w _ Ad)).trans Ad;replace Ae:=(HB.out.cell (World.block_lt_of_cell? w _ Ae)).trans Ae;replace Af:=(HB.out.cell (World.block_lt_of_cell? w _ Af)).trans Af;replace p178:=eq_true p178;replace q178:=eq_true q178;try go_wp2_with (first|((with_reducible refine vE (N:=4) rfl ?_);refine vD ?hg (N:=4) ?hd (cs:=#[.string (⟨#[]⟩ : ByteArray),.string (⟨#[]⟩ : ByteArray),.int .i64 0]) (t:=50) ?hr ?_;(case hd=>rfl);(case hg=>rfl);(case hr=>first|(go_simp;done)|(go_simp;rfl));intro Ac hg w16 hbox hb;have Ak:=qb.mk (qB (by repeat(first|(with_reducible first|exact HB.out|apply qd|apply qa|apply qc)|exact HB.out)) hb);have Am:=qb.mk (hbox);have Ap:=qb.mk ((by rw [hg];exact(qG (by repeat(first|(with_reducible first|exact HB.out|apply qd|apply qa|apply qc)|exact HB.out))) : w.heap.size≤Ac));have Aq:=qb.mk ((by rw [hg];exact(qG (by repeat(first|(with_reducible first|exact HB.out|apply qd|apply qa|apply qc)|exact HB.out))) : w.heap.size≤Ac));clear HB;have HB:=Ak;have Ab:=Am;have Ar:=Ap;have Ag:=Aq;clear Ak Am Ap Aq;clear hb hbox hg;have hcz17_0 : w16.cell? ⟨Ac,0,none⟩=some (.string (⟨#[]⟩ : ByteArray)):=(qe Ab.out 0).trans rfl;have hcz17_1 : w16.cell? ⟨Ac,1,none⟩=some (.string (⟨#[]⟩ : ByteArray)):=(qe Ab.out 1).trans rfl;have hcz17_2 : w16.cell? ⟨Ac,2,none⟩=some (.int .i64 0):=(qe Ab.out 2).trans rfl;have hfz17_0:=qg Ab.out 0;have hfz17_1:=qg Ab.out 1;have hfz17_2:=qg Ab.out 2))
              have Ak : qb ((((w16.setCell ⟨Ac,0,none⟩ (.string ((qj l0 Aa).f0))).setCell ⟨Ac,1,none⟩ (.string ((qj l0 Aa).f1))).setCell ⟨Ac,2,none⟩ (.int .i64 ((qj l0 Aa).f2))).heap[Ac]? = some (.cells #[.string ((qj l0 Aa).f0),.string ((qj l0 Aa).f1),.int .i64 ((qj l0 Aa).f2)] 50 (0,0))):=⟨by(with_reducible repeat(first|refine qp ?_ _|refine qu ?_|refine qo ?_ _));refine vC (cs:=#[.string ((qj l0 Aa).f0),.string ((qj l0 Aa).f1),.int .i64 0]) ?_ 2 _ rfl;(with_reducible repeat(first|refine qp ?_ _|refine qu ?_|refine qo ?_ _));refine vC (cs:=#[.string ((qj l0 Aa).f0),.string (⟨#[]⟩ : ByteArray),.int .i64 0]) ?_ 1 _ rfl;(with_reducible repeat(first|refine qp ?_ _|refine qu ?_|refine qo ?_ _));refine vC (cs:=#[.string (⟨#[]⟩ : ByteArray),.string (⟨#[]⟩ : ByteArray),.int .i64 0]) ?_ 0 _ rfl;(with_reducible repeat(first|refine qp ?_ _|refine qu ?_|refine qo ?_ _));exact Ab.out⟩;have Am : qb (Below w.heap.size w (((w16.setCell ⟨Ac,0,none⟩ (.string ((qj l0 Aa).f0))).setCell ⟨Ac,1,none⟩ (.string ((qj l0 Aa).f1))).setCell ⟨Ac,2,none⟩ (.int .i64 ((qj l0 Aa).f2)))):=⟨by repeat(first|(with_reducible first|exact HB.out|apply qd|apply qa|apply qc|refine qh ?_ Ag.out)|exact HB.out)⟩
              (try clear Ab)
              (try clear HB)
              generalize (((w16.setCell ⟨Ac,0,none⟩ (.string ((qj l0 Aa).f0))).setCell ⟨Ac,1,none⟩ (.string ((qj l0 Aa).f1))).setCell ⟨Ac,2,none⟩ (.int .i64 ((qj l0 Aa).f2)))=w18 at Ak Am ⊢
              have Ab:=Ak;have HB:=Am;clear Ak Am;have Ak:=qb.mk (qu Ab.out);have Am:=qb.mk (qc HB.out);clear Ab;clear HB;have Ab:=Ak;have HB:=Am;clear Ak Am;have p180 : 0≤((Ao) : Int):=of_decide_eq_true (by first|(with_reducible assumption)|assumption);have q180 : (Ao)<(l0.length : Int):=of_decide_eq_true (by first|(with_reducible assumption)|assumption);obtain⟨ad180,e180,Ah,Ai,Aj⟩:=vY HR0.out (Ao) p180 q180;have hw180_2:=Aj;have hw180_1:=Ai;have hw180_0:=Ah;obtain rfl : ad178=ad180:=(by injection e180);replace Ah:=(HB.out.cell (World.block_lt_of_cell? w _ Ah)).trans Ah;replace Ai:=(HB.out.cell (World.block_lt_of_cell? w _ Ai)).trans Ai;replace Aj:=(HB.out.cell (World.block_lt_of_cell? w _ Aj)).trans Aj;replace p180:=eq_true p180;replace q180:=eq_true q180;refine zS (n:=30) (S:=fun w'=>w'.cell? ⟨Ac,0,none⟩=some (.string ((qj l0 Aa).f0))∧w'.cell? ⟨Ac,1,none⟩=some (.string ((qj l0 Aa).f1))∧w'.cell? ⟨Ac,2,none⟩=some (.int .i64 ((qj l0 Aa).f2))∧w'.cell? (ad178.add (((Ao)).toNat * 3))=some (.string ((qj l0 (Ao)).f0))∧w'.cell? ⟨(ad178.add (((Ao)).toNat * 3)).block,(ad178.add (((Ao)).toNat * 3)).off + 1,none⟩=some (.string ((qj l0 (Ao)).f1))∧w'.cell? ⟨(ad178.add (((Ao)).toNat * 3)).block,(ad178.add (((Ao)).toNat * 3)).off + 2,none⟩=some (.int .i64 ((qj l0 (Ao)).f2))) (ds:=[]) #[false,false,false,false,false,false,false,false,false,false,false,false,false,false,false,false,false,false,false,false,false,false,false,false,false,false,false,false,false,false] (by kernel_rfl) rfl rfl ⟨(qe Ab.out 0).trans rfl,(qe Ab.out 1).trans rfl,(qe Ab.out 2).trans rfl,((HB.out.cell (World.block_lt_of_cell? w _ hw180_0)).trans hw180_0),((HB.out.cell (World.block_lt_of_cell? w _ hw180_1)).trans hw180_1),((HB.out.cell (World.block_lt_of_cell? w _ hw180_2)).trans hw180_2)⟩ (fun hHeld=>?_);refine zu qM.tab6 qM.bits6 (fun HT_ HW_=>?_)
              generalize w18.drew=w19 at Ab HB Ah Ai Aj hHeld ⊢
              refine qw (i:=0) (N:=some 15) (v:=?_) (a':=?_) #[true,false,false,false,false,false,false,false,false,false,false,false,false,false,false,false,false,false,false,false,false,false,false,false,false,false,false,false,false,false] rfl rfl (qn HT_.out (by kernel_rfl)) (fun _ _ _ h=>h) (Or.inl ⟨by rfl,?_⟩) ?_ ?_;rotate_left
              ·intro w'
               go_simp
               with_reducible rfl
              rotate_left
              ·simp only [Act.put,qSa,qSb,qSc,qm,qq]
               rfl
              refine qw (i:=1) (N:=some 16) (v:=?_) (a':=?_) #[true,true,false,false,false,false,false,false,false,false,false,false,false,false,false,false,false,false,false,false,false,false,false,false,false,false,false,false,false,false] rfl rfl (qn HT_.out (by kernel_rfl)) (fun _ _ _ h=>h) (Or.inl ⟨by rfl,?_⟩) ?_ ?_;rotate_left
              ·intro w'
               go_simp
               with_reducible rfl
              rotate_left
              ·simp only [Act.put,qSa,qSb,qSc,qm,qq]
               rfl
              refine qw (i:=2) (N:=some 17) (v:=?_) (a':=?_) #[true,true,true,false,false,false,false,false,false,false,false,false,false,false,false,false,false,false,false,false,false,false,false,false,false,false,false,false,false,false] rfl rfl (qn HT_.out (by kernel_rfl)) (fun _ _ _ h=>h) (Or.inl ⟨by rfl,?_⟩) ?_ ?_;rotate_left
              ·intro w'
               go_simp
               with_reducible rfl
              rotate_left
              ·simp only [Act.put,qSa,qSb,qSc,qm,qq]
               rfl
              refine qw (i:=3) (N:=some 18) (v:=?_) (a':=?_) #[true,true,true,true,false,false,false,false,false,false,false,false,false,false,false,false,false,false,false,false,false,false,false,false,false,false,false,false,false,false] rfl rfl (qn HT_.out (by kernel_rfl)) (fun _ _ _ h=>h) (Or.inl ⟨by rfl,?_⟩) ?_ ?_;rotate_left
              ·intro w'
               go_simp
               with_reducible rfl
              rotate_left
              ·simp only [Act.put,qSa,qSb,qSc,qm,qq]
               rfl
              refine qw (i:=5) (N:=some 20) (v:=?_) (a':=?_) #[true,true,true,true,false,true,false,false,false,false,false,false,false,false,false,false,false,false,false,false,false,false,false,false,false,false,false,false,false,false] rfl rfl (qn HT_.out (by kernel_rfl)) (fun _ _ _ h=>h) (Or.inl ⟨by rfl,?_⟩) ?_ ?_;rotate_left
              ·intro w'
               go_simp
               with_reducible rfl
              rotate_left
              ·simp only [Act.put,qSa,qSb,qSc,qm,qq]
               rfl
              refine qw (i:=6) (N:=some 21) (v:=?_) (a':=?_) #[true,true,true,true,false,true,true,false,false,false,false,false,false,false,false,false,false,false,false,false,false,false,false,false,false,false,false,false,false,false] rfl rfl (qn HT_.out (by kernel_rfl)) (fun _ _ _ h=>h) (Or.inl ⟨by rfl,?_⟩) ?_ ?_;rotate_left
              ·intro w'
               go_simp
               with_reducible rfl
              rotate_left
              ·simp only [Act.put,qSa,qSb,qSc,qm,qq]
               rfl
              refine qw (i:=7) (N:=some 22) (v:=?_) (a':=?_) #[true,true,true,true,false,true,true,true,false,false,false,false,false,false,false,false,false,false,false,false,false,false,false,false,false,false,false,false,false,false] rfl rfl (qn HT_.out (by kernel_rfl)) (fun _ _ _ h=>h) (Or.inl ⟨by rfl,?_⟩) ?_ ?_;rotate_left
              ·intro w'
               go_simp
               with_reducible rfl
              rotate_left
              ·simp only [Act.put,qSa,qSb,qSc,qm,qq]
               rfl
              refine qw (i:=8) (N:=some 23) (v:=?_) (a':=?_) #[true,true,true,true,false,true,true,true,true,false,false,false,false,false,false,false,false,false,false,false,false,false,false,false,false,false,false,false,false,false] rfl rfl (qn HT_.out (by kernel_rfl)) (fun _ _ _ h=>h) (Or.inl ⟨by rfl,?_⟩) ?_ ?_;rotate_left
              ·intro w'
               go_simp
               with_reducible rfl
              rotate_left
              ·simp only [Act.put,qSa,qSb,qSc,qm,qq]
               rfl
              refine qw (i:=9) (N:=some 24) (v:=?_) (a':=?_) #[true,true,true,true,false,true,true,true,true,true,false,false,false,false,false,false,false,false,false,false,false,false,false,false,false,false,false,false,false,false] rfl rfl (qn HT_.out (by kernel_rfl)) (fun _ _ _ h=>h) (Or.inl ⟨by rfl,?_⟩) ?_ ?_;rotate_left
              ·intro w'
               go_simp
               with_reducible rfl
              rotate_left
              ·simp only [Act.put,qSa,qSb,qSc,qm,qq]
               rfl
              refine vZ (i:=4) (N:=some 19) (v:=?_) (a':=?_) #[true,true,true,true,true,true,true,true,true,true,false,false,false,false,false,false,false,false,false,false,false,false,false,false,false,false,false,false,false,false] rfl rfl (vu HT_.out HW_.out (by kernel_rfl)) (fun _ _ _ h=>h) (Or.inl ⟨by rfl,?_⟩) hHeld ?_ ?_;rotate_left
              ·rintro w' ⟨s0,s1,s2,s3,s4,s5⟩
               go_simp
               with_reducible rfl
              rotate_left
              ·simp only [Act.put,qSa,qSb,qSc,qm,qq]
               rfl
              refine vZ (i:=10) (N:=some 25) (v:=?_) (a':=?_) #[true,true,true,true,true,true,true,true,true,true,true,false,false,false,false,false,false,false,false,false,false,false,false,false,false,false,false,false,false,false] rfl rfl (vu HT_.out HW_.out (by kernel_rfl)) (fun _ _ _ h=>h) (Or.inl ⟨by rfl,?_⟩) hHeld ?_ ?_;rotate_left
              ·rintro w' ⟨s0,s1,s2,s3,s4,s5⟩
               go_simp
               with_reducible rfl
              rotate_left
              ·simp only [Act.put,qSa,qSb,qSc,qm,qq]
               rfl
              refine qw (i:=11) (N:=some 26) (v:=?_) (a':=?_) #[true,true,true,true,true,true,true,true,true,true,true,true,false,false,false,false,false,false,false,false,false,false,false,false,false,false,false,false,false,false] rfl rfl (qn HT_.out (by kernel_rfl)) (fun _ _ _ h=>h) (Or.inl ⟨by rfl,?_⟩) ?_ ?_;rotate_left
              ·intro w'
               go_simp
               with_reducible rfl
              rotate_left
              ·simp only [Act.put,qSa,qSb,qSc,qm,qq]
               rfl
              refine qw (i:=12) (N:=some 27) (v:=?_) (a':=?_) #[true,true,true,true,true,true,true,true,true,true,true,true,true,false,false,false,false,false,false,false,false,false,false,false,false,false,false,false,false,false] rfl rfl (qn HT_.out (by kernel_rfl)) (fun _ _ _ h=>h) (Or.inl ⟨by rfl,?_⟩) ?_ ?_;rotate_left
              ·intro w'
               go_simp
               with_reducible rfl
              rotate_left
              ·simp only [Act.put,qSa,qSb,qSc,qm,qq]
               rfl
              refine qw (i:=13) (N:=some 28) (v:=?_) (a':=?_) #[true,true,true,true,true,true,true,true,true,true,true,true,true,true,false,false,false,false,false,false,false,false,false,false,false,false,false,false,false,false] rfl rfl (qn HT_.out (by kernel_rfl)) (fun _ _ _ h=>h) (Or.inl ⟨by rfl,?_⟩) ?_ ?_;rotate_left
              ·intro w'
               go_simp
               with_reducible rfl
              rotate_left
              ·simp only [Act.put,qSa,qSb,qSc,qm,qq]
               rfl
              refine qw (i:=14) (N:=some 29) (v:=?_) (a':=?_) #[true,true,true,true,true,true,true,true,true,true,true,true,true,true,true,false,false,false,false,false,false,false,false,false,false,false,false,false,false,false] rfl rfl (qn HT_.out (by kernel_rfl)) (fun _ _ _ h=>h) (Or.inl ⟨by rfl,?_⟩) ?_ ?_;rotate_left
              ·intro w'
               go_simp
               with_reducible rfl
              rotate_left
              ·simp only [Act.put,qSa,qSb,qSc,qm,qq]
               rfl
              refine vZ (i:=15) (N:=some 30) (v:=?_) (a':=?_) #[true,true,true,true,true,true,true,true,true,true,true,true,true,true,true,true,false,false,false,false,false,false,false,false,false,false,false,false,false,false] rfl rfl (vu HT_.out HW_.out (by kernel_rfl)) (fun _ _ _ h=>h) (Or.inl ⟨by rfl,?_⟩) hHeld ?_ ?_;rotate_left
              ·rintro w' ⟨s0,s1,s2,s3,s4,s5⟩
               go_simp
               with_reducible rfl
              rotate_left
              ·simp only [Act.put,qSa,qSb,qSc,qm,qq]
               rfl
              refine zP (i:=16) (N:=some 31) #[true,true,true,true,true,true,true,true,true,true,true,true,true,true,true,true,true,false,false,false,false,false,false,false,false,false,false,false,false,false] rfl rfl (zm HT_.out (by kernel_rfl)) (by decide) (fun K hK=>?_);refine zy Tryd.func21 (by kernel_rfl) rfl #[.string ((qj l0 Aa).f0)] (by rfl) rfl rfl (by(try simp only [List.map_toArray,List.map_cons,List.map_nil]);first|done|rfl|(simp only [List.length_drop,List.length_take];rfl)) ?_
              with_reducible refine(zi.calls k1 ((qj l0 Aa).f0) true _ A11.out (HT.out.go (by repeat(first|(with_reducible first|exact HB.out|apply qd|apply qa|apply qc|refine qh ?_ Ag.out)|exact HB.out)))).mono ?_
              rintro e w20 ⟨rfl,hb⟩;refine⟨_,rfl,?_⟩;have Ak:=qb.mk (qJ (g:=Ac) (o:=.cells #[.string ((qj l0 Aa).f0),.string ((qj l0 Aa).f1),.int .i64 ((qj l0 Aa).f2)] 50 (0,0)) (by(with_reducible repeat(first|refine qp ?_ _|refine qu ?_|refine qo ?_ _));exact Ab.out) hb);have Am:=qb.mk (qB (by repeat(first|(with_reducible first|exact HB.out|apply qd|apply qa|apply qc|refine qh ?_ Ag.out)|exact HB.out)) hb);clear Ab;clear HB;have Ab:=Ak;have HB:=Am;clear Ak Am
              (try clear hb)
              (try clear hb2)
              (try clear hk)
              (try clear hi)
              refine hK.out _ _ ⟨(qe Ab.out 0).trans rfl,(qe Ab.out 1).trans rfl,(qe Ab.out 2).trans rfl,((HB.out.cell (World.block_lt_of_cell? w _ hw180_0)).trans hw180_0),((HB.out.cell (World.block_lt_of_cell? w _ hw180_1)).trans hw180_1),((HB.out.cell (World.block_lt_of_cell? w _ hw180_2)).trans hw180_2)⟩ (fun hHeld=>?_);clear hK K;refine zz (a':=?_) ?_ ?_;rotate_left
              ·show Act.put _ (some 31) _=_
               simp only [Act.put,qSa,qSb,qSc,qm,qq]
               rfl
              refine qw (i:=17) (N:=some 32) (v:=?_) (a':=?_) #[true,true,true,true,true,true,true,true,true,true,true,true,true,true,true,true,true,true,false,false,false,false,false,false,false,false,false,false,false,false] rfl rfl (qn HT_.out (by kernel_rfl)) (fun _ _ _ h=>h) (Or.inl ⟨by rfl,?_⟩) ?_ ?_;rotate_left
              ·intro w'
               go_simp
               with_reducible rfl
              rotate_left
              ·simp only [Act.put,qSa,qSb,qSc,qm,qq]
               rfl
              refine qw (i:=18) (N:=some 33) (v:=?_) (a':=?_) #[true,true,true,true,true,true,true,true,true,true,true,true,true,true,true,true,true,true,true,false,false,false,false,false,false,false,false,false,false,false] rfl rfl (qn HT_.out (by kernel_rfl)) (fun _ _ _ h=>h) (Or.inl ⟨by rfl,?_⟩) ?_ ?_;rotate_left
              ·intro w'
               go_simp
               with_reducible rfl
              rotate_left
              ·simp only [Act.put,qSa,qSb,qSc,qm,qq]
               rfl
              refine qw (i:=19) (N:=some 34) (v:=?_) (a':=?_) #[true,true,true,true,true,true,true,true,true,true,true,true,true,true,true,true,true,true,true,true,false,false,false,false,false,false,false,false,false,false] rfl rfl (qn HT_.out (by kernel_rfl)) (fun _ _ _ h=>h) (Or.inl ⟨by rfl,?_⟩) ?_ ?_;rotate_left
              ·intro w'
               go_simp
               with_reducible rfl
              rotate_left
              ·simp only [Act.put,qSa,qSb,qSc,qm,qq]
               rfl
              refine qw (i:=20) (N:=some 35) (v:=?_) (a':=?_) #[true,true,true,true,true,true,true,true,true,true,true,true,true,true,true,true,true,true,true,true,true,false,false,false,false,false,false,false,false,false] rfl rfl (qn HT_.out (by kernel_rfl)) (fun _ _ _ h=>h) (Or.inl ⟨by rfl,?_⟩) ?_ ?_;rotate_left
              ·intro w'
               go_simp
               with_reducible rfl
              rotate_left
              ·simp only [Act.put,qSa,qSb,qSc,qm,qq]
               rfl
              refine vZ (i:=21) (N:=some 36) (v:=?_) (a':=?_) #[true,true,true,true,true,true,true,true,true,true,true,true,true,true,true,true,true,true,true,true,true,true,false,false,false,false,false,false,false,false] rfl rfl (vu HT_.out HW_.out (by kernel_rfl)) (fun _ _ _ h=>h) (Or.inl ⟨by rfl,?_⟩) hHeld ?_ ?_;rotate_left
              ·rintro w' ⟨s0,s1,s2,s3,s4,s5⟩
               go_simp
               with_reducible rfl
              rotate_left
              ·simp only [Act.put,qSa,qSb,qSc,qm,qq]
               rfl
              refine zP (i:=22) (N:=some 37) #[true,true,true,true,true,true,true,true,true,true,true,true,true,true,true,true,true,true,true,true,true,true,true,false,false,false,false,false,false,false] rfl rfl (zm HT_.out (by kernel_rfl)) (by decide) (fun K hK=>?_);refine zy Tryd.func23 (by kernel_rfl) rfl #[.string ((qj l0 Aa).f1)] (by rfl) rfl rfl (by(try simp only [List.map_toArray,List.map_cons,List.map_nil]);first|done|rfl|(simp only [List.length_drop,List.length_take];rfl)) ?_
              with_reducible refine(vX.calls k1 ((qj l0 Aa).f1) true _ A13.out (HT.out.go (by repeat(first|(with_reducible first|exact HB.out|apply qd|apply qa|apply qc|refine qh ?_ Ag.out)|exact HB.out)))).mono ?_
              rintro e w21 ⟨rfl,hb⟩;refine⟨_,rfl,?_⟩;have Ak:=qb.mk (qJ (g:=Ac) (o:=.cells #[.string ((qj l0 Aa).f0),.string ((qj l0 Aa).f1),.int .i64 ((qj l0 Aa).f2)] 50 (0,0)) (by(with_reducible repeat(first|refine qp ?_ _|refine qu ?_|refine qo ?_ _));exact Ab.out) hb);have Am:=qb.mk (qB (by repeat(first|(with_reducible first|exact HB.out|apply qd|apply qa|apply qc|refine qh ?_ Ag.out)|exact HB.out)) hb);clear Ab;clear HB;have Ab:=Ak;have HB:=Am;clear Ak Am
              (try clear hb)
              (try clear hb2)
              (try clear hk)
              (try clear hi)
              refine hK.out _ _ ⟨(qe Ab.out 0).trans rfl,(qe Ab.out 1).trans rfl,(qe Ab.out 2).trans rfl,((HB.out.cell (World.block_lt_of_cell? w _ hw180_0)).trans hw180_0),((HB.out.cell (World.block_lt_of_cell? w _ hw180_1)).trans hw180_1),((HB.out.cell (World.block_lt_of_cell? w _ hw180_2)).trans hw180_2)⟩ (fun hHeld=>?_);clear hK K;refine zz (a':=?_) ?_ ?_;rotate_left
              ·show Act.put _ (some 37) _=_
               simp only [Act.put,qSa,qSb,qSc,qm,qq]
               rfl
              refine qw (i:=23) (N:=some 38) (v:=?_) (a':=?_) #[true,true,true,true,true,true,true,true,true,true,true,true,true,true,true,true,true,true,true,true,true,true,true,true,false,false,false,false,false,false] rfl rfl (qn HT_.out (by kernel_rfl)) (fun _ _ _ h=>h) (Or.inl ⟨by rfl,?_⟩) ?_ ?_;rotate_left
              ·intro w'
               go_simp
               with_reducible rfl
              rotate_left
              ·simp only [Act.put,qSa,qSb,qSc,qm,qq]
               rfl
              refine qw (i:=24) (N:=some 39) (v:=?_) (a':=?_) #[true,true,true,true,true,true,true,true,true,true,true,true,true,true,true,true,true,true,true,true,true,true,true,true,true,false,false,false,false,false] rfl rfl (qn HT_.out (by kernel_rfl)) (fun _ _ _ h=>h) (Or.inl ⟨by rfl,?_⟩) ?_ ?_;rotate_left
              ·intro w'
               go_simp
               with_reducible rfl
              rotate_left
              ·simp only [Act.put,qSa,qSb,qSc,qm,qq]
               rfl
              refine qw (i:=25) (N:=some 40) (v:=?_) (a':=?_) #[true,true,true,true,true,true,true,true,true,true,true,true,true,true,true,true,true,true,true,true,true,true,true,true,true,true,false,false,false,false] rfl rfl (qn HT_.out (by kernel_rfl)) (fun _ _ _ h=>h) (Or.inl ⟨by rfl,?_⟩) ?_ ?_;rotate_left
              ·intro w'
               go_simp
               with_reducible rfl
              rotate_left
              ·simp only [Act.put,qSa,qSb,qSc,qm,qq]
               rfl
              refine qw (i:=26) (N:=some 41) (v:=?_) (a':=?_) #[true,true,true,true,true,true,true,true,true,true,true,true,true,true,true,true,true,true,true,true,true,true,true,true,true,true,true,false,false,false] rfl rfl (qn HT_.out (by kernel_rfl)) (fun _ _ _ h=>h) (Or.inl ⟨by rfl,?_⟩) ?_ ?_;rotate_left
              ·intro w'
               go_simp
               with_reducible rfl
              rotate_left
              ·simp only [Act.put,qSa,qSb,qSc,qm,qq]
               rfl
              refine vZ (i:=27) (N:=some 42) (v:=?_) (a':=?_) #[true,true,true,true,true,true,true,true,true,true,true,true,true,true,true,true,true,true,true,true,true,true,true,true,true,true,true,true,false,false] rfl rfl (vu HT_.out HW_.out (by kernel_rfl)) (fun _ _ _ h=>h) (Or.inl ⟨by rfl,?_⟩) hHeld ?_ ?_;rotate_left
              ·rintro w' ⟨s0,s1,s2,s3,s4,s5⟩
               go_simp
               with_reducible rfl
              rotate_left
              ·simp only [Act.put,qSa,qSb,qSc,qm,qq]
               rfl
              refine qw (i:=28) (N:=some 43) (v:=?_) (a':=?_) #[true,true,true,true,true,true,true,true,true,true,true,true,true,true,true,true,true,true,true,true,true,true,true,true,true,true,true,true,true,false] rfl rfl (qn HT_.out (by kernel_rfl)) (fun _ _ _ h=>h) (Or.inl ⟨by rfl,?_⟩) ?_ ?_;rotate_left
              ·intro w'
               go_simp
               with_reducible rfl
              rotate_left
              ·simp only [Act.put,qSa,qSb,qSc,qm,qq]
               rfl
              refine qw (i:=29) (N:=some 44) (v:=?_) (a':=?_) #[true,true,true,true,true,true,true,true,true,true,true,true,true,true,true,true,true,true,true,true,true,true,true,true,true,true,true,true,true,true] rfl rfl (qn HT_.out (by kernel_rfl)) (fun _ _ _ h=>h) (Or.inl ⟨by rfl,?_⟩) ?_ ?_;rotate_left
              ·intro w'
               go_simp
               with_reducible rfl
              rotate_left
              ·simp only [Act.put,qSa,qSb,qSc,qm,qq]
               rfl
              refine jn (zK HT_.out (by kernel_rfl)) ?_;try go_wp2
              go_roundg k1
              case measure=>have:=HK1.out;omega
              case rel=>exact⟨(wrap64 (Aa + 1)),(by first|rfl|(simp;done)|(simp [*];done)),H',⟨by have:=HK1.out;omega⟩,⟨by repeat(first|(with_reducible first|exact HB.out|apply qd|apply qa|apply qc|refine qh ?_ Ag.out)|exact HB.out)⟩⟩
             ·rw [if_neg Ay] at H
              have c15b0 : (((qj l0 Aa).f2) == 0)=false:=beq_eq_false_iff_ne.mpr Ay;have c15b1 : (((qj l0 Aa).f2) != 0)=true:=bne_iff_ne.mpr Ay;obtain rfl:=Option.some.inj H;have p178 : 0≤(Aa : Int):=of_decide_eq_true (by first|(with_reducible assumption)|assumption);have q178 : Aa<(l0.length : Int):=of_decide_eq_true (by first|(with_reducible assumption)|assumption);obtain⟨ad178,e178,Ad,Ae,Af⟩:=vY HR0.out Aa p178 q178
              cases e178
              replace Ad:=(HB.out.cell (World.block_lt_of_cell? w _ Ad)).trans Ad;replace Ae:=(HB.out.cell (World.block_lt_of_cell? w _ Ae)).trans Ae;replace Af:=(HB.out.cell (World.block_lt_of_cell? w _ Af)).trans Af;replace p178:=eq_true p178;replace q178:=eq_true q178;try go_wp2_with (first|((with_reducible refine vE (N:=4) rfl ?_);refine vD ?hg (N:=4) ?hd (cs:=#[.string (⟨#[]⟩ : ByteArray),.string (⟨#[]⟩ : ByteArray),.int .i64 0]) (t:=50) ?hr ?_;(case hd=>rfl);(case hg=>rfl);(case hr=>first|(go_simp;done)|(go_simp;rfl));intro Ac hg w22 hbox hb;have Ak:=qb.mk (qB (by repeat(first|(with_reducible first|exact HB.out|apply qd|apply qa|apply qc)|exact HB.out)) hb);have Am:=qb.mk (hbox);have Ap:=qb.mk ((by rw [hg];exact(qG (by repeat(first|(with_reducible first|exact HB.out|apply qd|apply qa|apply qc)|exact HB.out))) : w.heap.size≤Ac));have Aq:=qb.mk ((by rw [hg];exact(qG (by repeat(first|(with_reducible first|exact HB.out|apply qd|apply qa|apply qc)|exact HB.out))) : w.heap.size≤Ac));clear HB;have HB:=Ak;have Ab:=Am;have Ar:=Ap;have Ag:=Aq;clear Ak Am Ap Aq;clear hb hbox hg;have hcz23_0 : w22.cell? ⟨Ac,0,none⟩=some (.string (⟨#[]⟩ : ByteArray)):=(qe Ab.out 0).trans rfl;have hcz23_1 : w22.cell? ⟨Ac,1,none⟩=some (.string (⟨#[]⟩ : ByteArray)):=(qe Ab.out 1).trans rfl;have hcz23_2 : w22.cell? ⟨Ac,2,none⟩=some (.int .i64 0):=(qe Ab.out 2).trans rfl;have hfz23_0:=qg Ab.out 0;have hfz23_1:=qg Ab.out 1;have hfz23_2:=qg Ab.out 2))
              have Ak : qb ((((w22.setCell ⟨Ac,0,none⟩ (.string ((qj l0 Aa).f0))).setCell ⟨Ac,1,none⟩ (.string ((qj l0 Aa).f1))).setCell ⟨Ac,2,none⟩ (.int .i64 ((qj l0 Aa).f2))).heap[Ac]? = some (.cells #[.string ((qj l0 Aa).f0),.string ((qj l0 Aa).f1),.int .i64 ((qj l0 Aa).f2)] 50 (0,0))):=⟨by(with_reducible repeat(first|refine qp ?_ _|refine qu ?_|refine qo ?_ _));refine vC (cs:=#[.string ((qj l0 Aa).f0),.string ((qj l0 Aa).f1),.int .i64 0]) ?_ 2 _ rfl;(with_reducible repeat(first|refine qp ?_ _|refine qu ?_|refine qo ?_ _));refine vC (cs:=#[.string ((qj l0 Aa).f0),.string (⟨#[]⟩ : ByteArray),.int .i64 0]) ?_ 1 _ rfl;(with_reducible repeat(first|refine qp ?_ _|refine qu ?_|refine qo ?_ _));refine vC (cs:=#[.string (⟨#[]⟩ : ByteArray),.string (⟨#[]⟩ : ByteArray),.int .i64 0]) ?_ 0 _ rfl;(with_reducible repeat(first|refine qp ?_ _|refine qu ?_|refine qo ?_ _));exact Ab.out⟩;have Am : qb (Below w.heap.size w (((w22.setCell ⟨Ac,0,none⟩ (.string ((qj l0 Aa).f0))).setCell ⟨Ac,1,none⟩ (.string ((qj l0 Aa).f1))).setCell ⟨Ac,2,none⟩ (.int .i64 ((qj l0 Aa).f2)))):=⟨by repeat(first|(with_reducible first|exact HB.out|apply qd|apply qa|apply qc|refine qh ?_ Ag.out)|exact HB.out)⟩
              (try clear Ab)
              (try clear HB)
              generalize (((w22.setCell ⟨Ac,0,none⟩ (.string ((qj l0 Aa).f0))).setCell ⟨Ac,1,none⟩ (.string ((qj l0 Aa).f1))).setCell ⟨Ac,2,none⟩ (.int .i64 ((qj l0 Aa).f2)))=w24 at Ak Am ⊢
              have Ab:=Ak;have HB:=Am;clear Ak Am;have Ak:=qb.mk (qu Ab.out);have Am:=qb.mk (qc HB.out);clear Ab;clear HB;have Ab:=Ak;have HB:=Am;clear Ak Am;have p180 : 0≤((Ao) : Int):=of_decide_eq_true (by first|(with_reducible assumption)|assumption);have q180 : (Ao)<(l0.length : Int):=of_decide_eq_true (by first|(with_reducible assumption)|assumption);obtain⟨ad180,e180,Ah,Ai,Aj⟩:=vY HR0.out (Ao) p180 q180;have hw180_2:=Aj;have hw180_1:=Ai;have hw180_0:=Ah;obtain rfl : ad178=ad180:=(by injection e180);replace Ah:=(HB.out.cell (World.block_lt_of_cell? w _ Ah)).trans Ah;replace Ai:=(HB.out.cell (World.block_lt_of_cell? w _ Ai)).trans Ai;replace Aj:=(HB.out.cell (World.block_lt_of_cell? w _ Aj)).trans Aj;replace p180:=eq_true p180;replace q180:=eq_true q180;refine zS (n:=30) (S:=fun w'=>w'.cell? ⟨Ac,0,none⟩=some (.string ((qj l0 Aa).f0))∧w'.cell? ⟨Ac,1,none⟩=some (.string ((qj l0 Aa).f1))∧w'.cell? ⟨Ac,2,none⟩=some (.int .i64 ((qj l0 Aa).f2))∧w'.cell? (ad178.add (((Ao)).toNat * 3))=some (.string ((qj l0 (Ao)).f0))∧w'.cell? ⟨(ad178.add (((Ao)).toNat * 3)).block,(ad178.add (((Ao)).toNat * 3)).off + 1,none⟩=some (.string ((qj l0 (Ao)).f1))∧w'.cell? ⟨(ad178.add (((Ao)).toNat * 3)).block,(ad178.add (((Ao)).toNat * 3)).off + 2,none⟩=some (.int .i64 ((qj l0 (Ao)).f2))) (ds:=[]) #[false,false,false,false,false,false,false,false,false,false,false,false,false,false,false,false,false,false,false,false,false,false,false,false,false,false,false,false,false,false] (by kernel_rfl) rfl rfl ⟨(qe Ab.out 0).trans rfl,(qe Ab.out 1).trans rfl,(qe Ab.out 2).trans rfl,((HB.out.cell (World.block_lt_of_cell? w _ hw180_0)).trans hw180_0),((HB.out.cell (World.block_lt_of_cell? w _ hw180_1)).trans hw180_1),((HB.out.cell (World.block_lt_of_cell? w _ hw180_2)).trans hw180_2)⟩ (fun hHeld=>?_);refine zu qM.tab6 qM.bits6 (fun HT_ HW_=>?_)
              generalize w24.drew=w25 at Ab HB Ah Ai Aj hHeld ⊢
              refine qw (i:=0) (N:=some 15) (v:=?_) (a':=?_) #[true,false,false,false,false,false,false,false,false,false,false,false,false,false,false,false,false,false,false,false,false,false,false,false,false,false,false,false,false,false] rfl rfl (qn HT_.out (by kernel_rfl)) (fun _ _ _ h=>h) (Or.inl ⟨by rfl,?_⟩) ?_ ?_;rotate_left
              ·intro w'
               go_simp
               with_reducible rfl
              rotate_left
              ·simp only [Act.put,qSa,qSb,qSc,qm,qq]
               rfl
              refine qw (i:=1) (N:=some 16) (v:=?_) (a':=?_) #[true,true,false,false,false,false,false,false,false,false,false,false,false,false,false,false,false,false,false,false,false,false,false,false,false,false,false,false,false,false] rfl rfl (qn HT_.out (by kernel_rfl)) (fun _ _ _ h=>h) (Or.inl ⟨by rfl,?_⟩) ?_ ?_;rotate_left
              ·intro w'
               go_simp
               with_reducible rfl
              rotate_left
              ·simp only [Act.put,qSa,qSb,qSc,qm,qq]
               rfl
              refine qw (i:=2) (N:=some 17) (v:=?_) (a':=?_) #[true,true,true,false,false,false,false,false,false,false,false,false,false,false,false,false,false,false,false,false,false,false,false,false,false,false,false,false,false,false] rfl rfl (qn HT_.out (by kernel_rfl)) (fun _ _ _ h=>h) (Or.inl ⟨by rfl,?_⟩) ?_ ?_;rotate_left
              ·intro w'
               go_simp
               with_reducible rfl
              rotate_left
              ·simp only [Act.put,qSa,qSb,qSc,qm,qq]
               rfl
              refine qw (i:=3) (N:=some 18) (v:=?_) (a':=?_) #[true,true,true,true,false,false,false,false,false,false,false,false,false,false,false,false,false,false,false,false,false,false,false,false,false,false,false,false,false,false] rfl rfl (qn HT_.out (by kernel_rfl)) (fun _ _ _ h=>h) (Or.inl ⟨by rfl,?_⟩) ?_ ?_;rotate_left
              ·intro w'
               go_simp
               with_reducible rfl
              rotate_left
              ·simp only [Act.put,qSa,qSb,qSc,qm,qq]
               rfl
              refine qw (i:=5) (N:=some 20) (v:=?_) (a':=?_) #[true,true,true,true,false,true,false,false,false,false,false,false,false,false,false,false,false,false,false,false,false,false,false,false,false,false,false,false,false,false] rfl rfl (qn HT_.out (by kernel_rfl)) (fun _ _ _ h=>h) (Or.inl ⟨by rfl,?_⟩) ?_ ?_;rotate_left
              ·intro w'
               go_simp
               with_reducible rfl
              rotate_left
              ·simp only [Act.put,qSa,qSb,qSc,qm,qq]
               rfl
              refine qw (i:=6) (N:=some 21) (v:=?_) (a':=?_) #[true,true,true,true,false,true,true,false,false,false,false,false,false,false,false,false,false,false,false,false,false,false,false,false,false,false,false,false,false,false] rfl rfl (qn HT_.out (by kernel_rfl)) (fun _ _ _ h=>h) (Or.inl ⟨by rfl,?_⟩) ?_ ?_;rotate_left
              ·intro w'
               go_simp
               with_reducible rfl
              rotate_left
              ·simp only [Act.put,qSa,qSb,qSc,qm,qq]
               rfl
              refine qw (i:=7) (N:=some 22) (v:=?_) (a':=?_) #[true,true,true,true,false,true,true,true,false,false,false,false,false,false,false,false,false,false,false,false,false,false,false,false,false,false,false,false,false,false] rfl rfl (qn HT_.out (by kernel_rfl)) (fun _ _ _ h=>h) (Or.inl ⟨by rfl,?_⟩) ?_ ?_;rotate_left
              ·intro w'
               go_simp
               with_reducible rfl
              rotate_left
              ·simp only [Act.put,qSa,qSb,qSc,qm,qq]
               rfl
              refine qw (i:=8) (N:=some 23) (v:=?_) (a':=?_) #[true,true,true,true,false,true,true,true,true,false,false,false,false,false,false,false,false,false,false,false,false,false,false,false,false,false,false,false,false,false] rfl rfl (qn HT_.out (by kernel_rfl)) (fun _ _ _ h=>h) (Or.inl ⟨by rfl,?_⟩) ?_ ?_;rotate_left
              ·intro w'
               go_simp
               with_reducible rfl
              rotate_left
              ·simp only [Act.put,qSa,qSb,qSc,qm,qq]
               rfl
              refine qw (i:=9) (N:=some 24) (v:=?_) (a':=?_) #[true,true,true,true,false,true,true,true,true,true,false,false,false,false,false,false,false,false,false,false,false,false,false,false,false,false,false,false,false,false] rfl rfl (qn HT_.out (by kernel_rfl)) (fun _ _ _ h=>h) (Or.inl ⟨by rfl,?_⟩) ?_ ?_;rotate_left
              ·intro w'
               go_simp
               with_reducible rfl
              rotate_left
              ·simp only [Act.put,qSa,qSb,qSc,qm,qq]
               rfl
              refine vZ (i:=4) (N:=some 19) (v:=?_) (a':=?_) #[true,true,true,true,true,true,true,true,true,true,false,false,false,false,false,false,false,false,false,false,false,false,false,false,false,false,false,false,false,false] rfl rfl (vu HT_.out HW_.out (by kernel_rfl)) (fun _ _ _ h=>h) (Or.inl ⟨by rfl,?_⟩) hHeld ?_ ?_;rotate_left
              ·rintro w' ⟨s0,s1,s2,s3,s4,s5⟩
               go_simp
               with_reducible rfl
              rotate_left
              ·simp only [Act.put,qSa,qSb,qSc,qm,qq]
               rfl
              refine vZ (i:=10) (N:=some 25) (v:=?_) (a':=?_) #[true,true,true,true,true,true,true,true,true,true,true,false,false,false,false,false,false,false,false,false,false,false,false,false,false,false,false,false,false,false] rfl rfl (vu HT_.out HW_.out (by kernel_rfl)) (fun _ _ _ h=>h) (Or.inl ⟨by rfl,?_⟩) hHeld ?_ ?_;rotate_left
              ·rintro w' ⟨s0,s1,s2,s3,s4,s5⟩
               go_simp
               with_reducible rfl
              rotate_left
              ·simp only [Act.put,qSa,qSb,qSc,qm,qq]
               rfl
              refine qw (i:=11) (N:=some 26) (v:=?_) (a':=?_) #[true,true,true,true,true,true,true,true,true,true,true,true,false,false,false,false,false,false,false,false,false,false,false,false,false,false,false,false,false,false] rfl rfl (qn HT_.out (by kernel_rfl)) (fun _ _ _ h=>h) (Or.inl ⟨by rfl,?_⟩) ?_ ?_;rotate_left
              ·intro w'
               go_simp
               with_reducible rfl
              rotate_left
              ·simp only [Act.put,qSa,qSb,qSc,qm,qq]
               rfl
              refine qw (i:=12) (N:=some 27) (v:=?_) (a':=?_) #[true,true,true,true,true,true,true,true,true,true,true,true,true,false,false,false,false,false,false,false,false,false,false,false,false,false,false,false,false,false] rfl rfl (qn HT_.out (by kernel_rfl)) (fun _ _ _ h=>h) (Or.inl ⟨by rfl,?_⟩) ?_ ?_;rotate_left
              ·intro w'
               go_simp
               with_reducible rfl
              rotate_left
              ·simp only [Act.put,qSa,qSb,qSc,qm,qq]
               rfl
              refine qw (i:=13) (N:=some 28) (v:=?_) (a':=?_) #[true,true,true,true,true,true,true,true,true,true,true,true,true,true,false,false,false,false,false,false,false,false,false,false,false,false,false,false,false,false] rfl rfl (qn HT_.out (by kernel_rfl)) (fun _ _ _ h=>h) (Or.inl ⟨by rfl,?_⟩) ?_ ?_;rotate_left
              ·intro w'
               go_simp
               with_reducible rfl
              rotate_left
              ·simp only [Act.put,qSa,qSb,qSc,qm,qq]
               rfl
              refine qw (i:=14) (N:=some 29) (v:=?_) (a':=?_) #[true,true,true,true,true,true,true,true,true,true,true,true,true,true,true,false,false,false,false,false,false,false,false,false,false,false,false,false,false,false] rfl rfl (qn HT_.out (by kernel_rfl)) (fun _ _ _ h=>h) (Or.inl ⟨by rfl,?_⟩) ?_ ?_;rotate_left
              ·intro w'
               go_simp
               with_reducible rfl
              rotate_left
              ·simp only [Act.put,qSa,qSb,qSc,qm,qq]
               rfl
              refine vZ (i:=15) (N:=some 30) (v:=?_) (a':=?_) #[true,true,true,true,true,true,true,true,true,true,true,true,true,true,true,true,false,false,false,false,false,false,false,false,false,false,false,false,false,false] rfl rfl (vu HT_.out HW_.out (by kernel_rfl)) (fun _ _ _ h=>h) (Or.inl ⟨by rfl,?_⟩) hHeld ?_ ?_;rotate_left
              ·rintro w' ⟨s0,s1,s2,s3,s4,s5⟩
               go_simp
               with_reducible rfl
              rotate_left
              ·simp only [Act.put,qSa,qSb,qSc,qm,qq]
               rfl
              refine zP (i:=16) (N:=some 31) #[true,true,true,true,true,true,true,true,true,true,true,true,true,true,true,true,true,false,false,false,false,false,false,false,false,false,false,false,false,false] rfl rfl (zm HT_.out (by kernel_rfl)) (by decide) (fun K hK=>?_);refine zy Tryd.func21 (by kernel_rfl) rfl #[.string ((qj l0 Aa).f0)] (by rfl) rfl rfl (by(try simp only [List.map_toArray,List.map_cons,List.map_nil]);first|done|rfl|(simp only [List.length_drop,List.length_take];rfl)) ?_
              with_reducible refine(zi.calls k1 ((qj l0 Aa).f0) true _ A11.out (HT.out.go (by repeat(first|(with_reducible first|exact HB.out|apply qd|apply qa|apply qc|refine qh ?_ Ag.out)|exact HB.out)))).mono ?_
              rintro e w26 ⟨rfl,hb⟩;refine⟨_,rfl,?_⟩;have Ak:=qb.mk (qJ (g:=Ac) (o:=.cells #[.string ((qj l0 Aa).f0),.string ((qj l0 Aa).f1),.int .i64 ((qj l0 Aa).f2)] 50 (0,0)) (by(with_reducible repeat(first|refine qp ?_ _|refine qu ?_|refine qo ?_ _));exact Ab.out) hb);have Am:=qb.mk (qB (by repeat(first|(with_reducible first|exact HB.out|apply qd|apply qa|apply qc|refine qh ?_ Ag.out)|exact HB.out)) hb);clear Ab;clear HB;have Ab:=Ak;have HB:=Am;clear Ak Am
              (try clear hb)
              (try clear hb2)
              (try clear hk)
              (try clear hi)
              refine hK.out _ _ ⟨(qe Ab.out 0).trans rfl,(qe Ab.out 1).trans rfl,(qe Ab.out 2).trans rfl,((HB.out.cell (World.block_lt_of_cell? w _ hw180_0)).trans hw180_0),((HB.out.cell (World.block_lt_of_cell? w _ hw180_1)).trans hw180_1),((HB.out.cell (World.block_lt_of_cell? w _ hw180_2)).trans hw180_2)⟩ (fun hHeld=>?_);clear hK K;refine zz (a':=?_) ?_ ?_;rotate_left
              ·show Act.put _ (some 31) _=_
               simp only [Act.put,qSa,qSb,qSc,qm,qq]
               rfl
              refine qw (i:=17) (N:=some 32) (v:=?_) (a':=?_) #[true,true,true,true,true,true,true,true,true,true,true,true,true,true,true,true,true,true,false,false,false,false,false,false,false,false,false,false,false,false] rfl rfl (qn HT_.out (by kernel_rfl)) (fun _ _ _ h=>h) (Or.inl ⟨by rfl,?_⟩) ?_ ?_;rotate_left
              ·intro w'
               go_simp
               with_reducible rfl
              rotate_left
              ·simp only [Act.put,qSa,qSb,qSc,qm,qq]
               rfl
              refine qw (i:=18) (N:=some 33) (v:=?_) (a':=?_) #[true,true,true,true,true,true,true,true,true,true,true,true,true,true,true,true,true,true,true,false,false,false,false,false,false,false,false,false,false,false] rfl rfl (qn HT_.out (by kernel_rfl)) (fun _ _ _ h=>h) (Or.inl ⟨by rfl,?_⟩) ?_ ?_;rotate_left
              ·intro w'
               go_simp
               with_reducible rfl
              rotate_left
              ·simp only [Act.put,qSa,qSb,qSc,qm,qq]
               rfl
              refine qw (i:=19) (N:=some 34) (v:=?_) (a':=?_) #[true,true,true,true,true,true,true,true,true,true,true,true,true,true,true,true,true,true,true,true,false,false,false,false,false,false,false,false,false,false] rfl rfl (qn HT_.out (by kernel_rfl)) (fun _ _ _ h=>h) (Or.inl ⟨by rfl,?_⟩) ?_ ?_;rotate_left
              ·intro w'
               go_simp
               with_reducible rfl
              rotate_left
              ·simp only [Act.put,qSa,qSb,qSc,qm,qq]
               rfl
              refine qw (i:=20) (N:=some 35) (v:=?_) (a':=?_) #[true,true,true,true,true,true,true,true,true,true,true,true,true,true,true,true,true,true,true,true,true,false,false,false,false,false,false,false,false,false] rfl rfl (qn HT_.out (by kernel_rfl)) (fun _ _ _ h=>h) (Or.inl ⟨by rfl,?_⟩) ?_ ?_;rotate_left
              ·intro w'
               go_simp
               with_reducible rfl
              rotate_left
              ·simp only [Act.put,qSa,qSb,qSc,qm,qq]
               rfl
              refine vZ (i:=21) (N:=some 36) (v:=?_) (a':=?_) #[true,true,true,true,true,true,true,true,true,true,true,true,true,true,true,true,true,true,true,true,true,true,false,false,false,false,false,false,false,false] rfl rfl (vu HT_.out HW_.out (by kernel_rfl)) (fun _ _ _ h=>h) (Or.inl ⟨by rfl,?_⟩) hHeld ?_ ?_;rotate_left
              ·rintro w' ⟨s0,s1,s2,s3,s4,s5⟩
               go_simp
               with_reducible rfl
              rotate_left
              ·simp only [Act.put,qSa,qSb,qSc,qm,qq]
               rfl
              refine zP (i:=22) (N:=some 37) #[true,true,true,true,true,true,true,true,true,true,true,true,true,true,true,true,true,true,true,true,true,true,true,false,false,false,false,false,false,false] rfl rfl (zm HT_.out (by kernel_rfl)) (by decide) (fun K hK=>?_);refine zy Tryd.func23 (by kernel_rfl) rfl #[.string ((qj l0 Aa).f1)] (by rfl) rfl rfl (by(try simp only [List.map_toArray,List.map_cons,List.map_nil]);first|done|rfl|(simp only [List.length_drop,List.length_take];rfl)) ?_
              with_reducible refine(vX.calls k1 ((qj l0 Aa).f1) true _ A13.out (HT.out.go (by repeat(first|(with_reducible first|exact HB.out|apply qd|apply qa|apply qc|refine qh ?_ Ag.out)|exact HB.out)))).mono ?_
              rintro e w27 ⟨rfl,hb⟩;refine⟨_,rfl,?_⟩;have Ak:=qb.mk (qJ (g:=Ac) (o:=.cells #[.string ((qj l0 Aa).f0),.string ((qj l0 Aa).f1),.int .i64 ((qj l0 Aa).f2)] 50 (0,0)) (by(with_reducible repeat(first|refine qp ?_ _|refine qu ?_|refine qo ?_ _));exact Ab.out) hb);have Am:=qb.mk (qB (by repeat(first|(with_reducible first|exact HB.out|apply qd|apply qa|apply qc|refine qh ?_ Ag.out)|exact HB.out)) hb);clear Ab;clear HB;have Ab:=Ak;have HB:=Am;clear Ak Am
              (try clear hb)
              (try clear hb2)
              (try clear hk)
              (try clear hi)
              refine hK.out _ _ ⟨(qe Ab.out 0).trans rfl,(qe Ab.out 1).trans rfl,(qe Ab.out 2).trans rfl,((HB.out.cell (World.block_lt_of_cell? w _ hw180_0)).trans hw180_0),((HB.out.cell (World.block_lt_of_cell? w _ hw180_1)).trans hw180_1),((HB.out.cell (World.block_lt_of_cell? w _ hw180_2)).trans hw180_2)⟩ (fun hHeld=>?_);clear hK K;refine zz (a':=?_) ?_ ?_;rotate_left
              ·show Act.put _ (some 37) _=_
               simp only [Act.put,qSa,qSb,qSc,qm,qq]
               rfl
              refine qw (i:=23) (N:=some 38) (v:=?_) (a':=?_) #[true,true,true,true,true,true,true,true,true,true,true,true,true,true,true,true,true,true,true,true,true,true,true,true,false,false,false,false,false,false] rfl rfl (qn HT_.out (by kernel_rfl)) (fun _ _ _ h=>h) (Or.inl ⟨by rfl,?_⟩) ?_ ?_;rotate_left
              ·intro w'
               go_simp
               with_reducible rfl
              rotate_left
              ·simp only [Act.put,qSa,qSb,qSc,qm,qq]
               rfl
              refine qw (i:=24) (N:=some 39) (v:=?_) (a':=?_) #[true,true,true,true,true,true,true,true,true,true,true,true,true,true,true,true,true,true,true,true,true,true,true,true,true,false,false,false,false,false] rfl rfl (qn HT_.out (by kernel_rfl)) (fun _ _ _ h=>h) (Or.inl ⟨by rfl,?_⟩) ?_ ?_;rotate_left
              ·intro w'
               go_simp
               with_reducible rfl
              rotate_left
              ·simp only [Act.put,qSa,qSb,qSc,qm,qq]
               rfl
              refine qw (i:=25) (N:=some 40) (v:=?_) (a':=?_) #[true,true,true,true,true,true,true,true,true,true,true,true,true,true,true,true,true,true,true,true,true,true,true,true,true,true,false,false,false,false] rfl rfl (qn HT_.out (by kernel_rfl)) (fun _ _ _ h=>h) (Or.inl ⟨by rfl,?_⟩) ?_ ?_;rotate_left
              ·intro w'
               go_simp
               with_reducible rfl
              rotate_left
              ·simp only [Act.put,qSa,qSb,qSc,qm,qq]
               rfl
              refine qw (i:=26) (N:=some 41) (v:=?_) (a':=?_) #[true,true,true,true,true,true,true,true,true,true,true,true,true,true,true,true,true,true,true,true,true,true,true,true,true,true,true,false,false,false] rfl rfl (qn HT_.out (by kernel_rfl)) (fun _ _ _ h=>h) (Or.inl ⟨by rfl,?_⟩) ?_ ?_;rotate_left
              ·intro w'
               go_simp
               with_reducible rfl
              rotate_left
              ·simp only [Act.put,qSa,qSb,qSc,qm,qq]
               rfl
              refine vZ (i:=27) (N:=some 42) (v:=?_) (a':=?_) #[true,true,true,true,true,true,true,true,true,true,true,true,true,true,true,true,true,true,true,true,true,true,true,true,true,true,true,true,false,false] rfl rfl (vu HT_.out HW_.out (by kernel_rfl)) (fun _ _ _ h=>h) (Or.inl ⟨by rfl,?_⟩) hHeld ?_ ?_;rotate_left
              ·rintro w' ⟨s0,s1,s2,s3,s4,s5⟩
               go_simp
               with_reducible rfl
              rotate_left
              ·simp only [Act.put,qSa,qSb,qSc,qm,qq]
               rfl
              refine qw (i:=28) (N:=some 43) (v:=?_) (a':=?_) #[true,true,true,true,true,true,true,true,true,true,true,true,true,true,true,true,true,true,true,true,true,true,true,true,true,true,true,true,true,false] rfl rfl (qn HT_.out (by kernel_rfl)) (fun _ _ _ h=>h) (Or.inl ⟨by rfl,?_⟩) ?_ ?_;rotate_left
              ·intro w'
               go_simp
               with_reducible rfl
              rotate_left
              ·simp only [Act.put,qSa,qSb,qSc,qm,qq]
               rfl
              refine qw (i:=29) (N:=some 44) (v:=?_) (a':=?_) #[true,true,true,true,true,true,true,true,true,true,true,true,true,true,true,true,true,true,true,true,true,true,true,true,true,true,true,true,true,true] rfl rfl (qn HT_.out (by kernel_rfl)) (fun _ _ _ h=>h) (Or.inl ⟨by rfl,?_⟩) ?_ ?_;rotate_left
              ·intro w'
               go_simp
               with_reducible rfl
              rotate_left
              ·simp only [Act.put,qSa,qSb,qSc,qm,qq]
               rfl
              refine jn (zK HT_.out (by kernel_rfl)) ?_;try go_wp2
              go_ret
              exact⟨by first|rfl|(simp [qK,qL] <;> rfl)|(simp only [← Av];first|rfl|(simp [qK,qL] <;> rfl))|(simp [*,qK,qL] <;> rfl),by repeat(first|(with_reducible first|exact HB.out|apply qd|apply qa|apply qc|refine qh ?_ Ag.out)|exact HB.out)⟩
            ·replace c14:=Bool.eq_false_iff.mpr c14
             subst c14;have H1 : (some 3)=some r:=by rw [if_neg (show ¬ (false=true) by decide)] at H;exact H
             clear H;have H:=H1;clear H1;obtain rfl:=Option.some.inj H;have p178 : 0≤(Aa : Int):=of_decide_eq_true (by first|(with_reducible assumption)|assumption);have q178 : Aa<(l0.length : Int):=of_decide_eq_true (by first|(with_reducible assumption)|assumption);obtain⟨ad178,e178,Ad,Ae,Af⟩:=vY HR0.out Aa p178 q178
             cases e178
             replace Ad:=(HB.out.cell (World.block_lt_of_cell? w _ Ad)).trans Ad;replace Ae:=(HB.out.cell (World.block_lt_of_cell? w _ Ae)).trans Ae;replace Af:=(HB.out.cell (World.block_lt_of_cell? w _ Af)).trans Af;replace p178:=eq_true p178;replace q178:=eq_true q178;try go_wp2_with (first|((with_reducible refine vE (N:=4) rfl ?_);refine vD ?hg (N:=4) ?hd (cs:=#[.string (⟨#[]⟩ : ByteArray),.string (⟨#[]⟩ : ByteArray),.int .i64 0]) (t:=50) ?hr ?_;(case hd=>rfl);(case hg=>rfl);(case hr=>first|(go_simp;done)|(go_simp;rfl));intro Ac hg w28 hbox hb;have Ak:=qb.mk (qB (by repeat(first|(with_reducible first|exact HB.out|apply qd|apply qa|apply qc)|exact HB.out)) hb);have Am:=qb.mk (hbox);have Ap:=qb.mk ((by rw [hg];exact(qG (by repeat(first|(with_reducible first|exact HB.out|apply qd|apply qa|apply qc)|exact HB.out))) : w.heap.size≤Ac));have Aq:=qb.mk ((by rw [hg];exact(qG (by repeat(first|(with_reducible first|exact HB.out|apply qd|apply qa|apply qc)|exact HB.out))) : w.heap.size≤Ac));clear HB;have HB:=Ak;have Ab:=Am;have Ar:=Ap;have Ag:=Aq;clear Ak Am Ap Aq;clear hb hbox hg;have hcz29_0 : w28.cell? ⟨Ac,0,none⟩=some (.string (⟨#[]⟩ : ByteArray)):=(qe Ab.out 0).trans rfl;have hcz29_1 : w28.cell? ⟨Ac,1,none⟩=some (.string (⟨#[]⟩ : ByteArray)):=(qe Ab.out 1).trans rfl;have hcz29_2 : w28.cell? ⟨Ac,2,none⟩=some (.int .i64 0):=(qe Ab.out 2).trans rfl;have hfz29_0:=qg Ab.out 0;have hfz29_1:=qg Ab.out 1;have hfz29_2:=qg Ab.out 2))
             have Ak : qb ((((w28.setCell ⟨Ac,0,none⟩ (.string ((qj l0 Aa).f0))).setCell ⟨Ac,1,none⟩ (.string ((qj l0 Aa).f1))).setCell ⟨Ac,2,none⟩ (.int .i64 ((qj l0 Aa).f2))).heap[Ac]? = some (.cells #[.string ((qj l0 Aa).f0),.string ((qj l0 Aa).f1),.int .i64 ((qj l0 Aa).f2)] 50 (0,0))):=⟨by(with_reducible repeat(first|refine qp ?_ _|refine qu ?_|refine qo ?_ _));refine vC (cs:=#[.string ((qj l0 Aa).f0),.string ((qj l0 Aa).f1),.int .i64 0]) ?_ 2 _ rfl;(with_reducible repeat(first|refine qp ?_ _|refine qu ?_|refine qo ?_ _));refine vC (cs:=#[.string ((qj l0 Aa).f0),.string (⟨#[]⟩ : ByteArray),.int .i64 0]) ?_ 1 _ rfl;(with_reducible repeat(first|refine qp ?_ _|refine qu ?_|refine qo ?_ _));refine vC (cs:=#[.string (⟨#[]⟩ : ByteArray),.string (⟨#[]⟩ : ByteArray),.int .i64 0]) ?_ 0 _ rfl;(with_reducible repeat(first|refine qp ?_ _|refine qu ?_|refine qo ?_ _));exact Ab.out⟩;have Am : qb (Below w.heap.size w (((w28.setCell ⟨Ac,0,none⟩ (.string ((qj l0 Aa).f0))).setCell ⟨Ac,1,none⟩ (.string ((qj l0 Aa).f1))).setCell ⟨Ac,2,none⟩ (.int .i64 ((qj l0 Aa).f2)))):=⟨by repeat(first|(with_reducible first|exact HB.out|apply qd|apply qa|apply qc|refine qh ?_ Ag.out)|exact HB.out)⟩
             (try clear Ab)
             (try clear HB)
             generalize (((w28.setCell ⟨Ac,0,none⟩ (.string ((qj l0 Aa).f0))).setCell ⟨Ac,1,none⟩ (.string ((qj l0 Aa).f1))).setCell ⟨Ac,2,none⟩ (.int .i64 ((qj l0 Aa).f2)))=w30 at Ak Am ⊢
             have Ab:=Ak;have HB:=Am;clear Ak Am;have Ak:=qb.mk (qu Ab.out);have Am:=qb.mk (qc HB.out);clear Ab;clear HB;have Ab:=Ak;have HB:=Am;clear Ak Am;have p180 : 0≤((Ao) : Int):=of_decide_eq_true (by first|(with_reducible assumption)|assumption);have q180 : (Ao)<(l0.length : Int):=of_decide_eq_true (by first|(with_reducible assumption)|assumption);obtain⟨ad180,e180,Ah,Ai,Aj⟩:=vY HR0.out (Ao) p180 q180;have hw180_2:=Aj;have hw180_1:=Ai;have hw180_0:=Ah;obtain rfl : ad178=ad180:=(by injection e180);replace Ah:=(HB.out.cell (World.block_lt_of_cell? w _ Ah)).trans Ah;replace Ai:=(HB.out.cell (World.block_lt_of_cell? w _ Ai)).trans Ai;replace Aj:=(HB.out.cell (World.block_lt_of_cell? w _ Aj)).trans Aj;replace p180:=eq_true p180;replace q180:=eq_true q180;refine zS (n:=30) (S:=fun w'=>w'.cell? ⟨Ac,0,none⟩=some (.string ((qj l0 Aa).f0))∧w'.cell? ⟨Ac,1,none⟩=some (.string ((qj l0 Aa).f1))∧w'.cell? ⟨Ac,2,none⟩=some (.int .i64 ((qj l0 Aa).f2))∧w'.cell? (ad178.add (((Ao)).toNat * 3))=some (.string ((qj l0 (Ao)).f0))∧w'.cell? ⟨(ad178.add (((Ao)).toNat * 3)).block,(ad178.add (((Ao)).toNat * 3)).off + 1,none⟩=some (.string ((qj l0 (Ao)).f1))∧w'.cell? ⟨(ad178.add (((Ao)).toNat * 3)).block,(ad178.add (((Ao)).toNat * 3)).off + 2,none⟩=some (.int .i64 ((qj l0 (Ao)).f2))) (ds:=[]) #[false,false,false,false,false,false,false,false,false,false,false,false,false,false,false,false,false,false,false,false,false,false,false,false,false,false,false,false,false,false] (by kernel_rfl) rfl rfl ⟨(qe Ab.out 0).trans rfl,(qe Ab.out 1).trans rfl,(qe Ab.out 2).trans rfl,((HB.out.cell (World.block_lt_of_cell? w _ hw180_0)).trans hw180_0),((HB.out.cell (World.block_lt_of_cell? w _ hw180_1)).trans hw180_1),((HB.out.cell (World.block_lt_of_cell? w _ hw180_2)).trans hw180_2)⟩ (fun hHeld=>?_);refine zu qM.tab6 qM.bits6 (fun HT_ HW_=>?_)
             generalize w30.drew=w31 at Ab HB Ah Ai Aj hHeld ⊢
             refine qw (i:=0) (N:=some 15) (v:=?_) (a':=?_) #[true,false,false,false,false,false,false,false,false,false,false,false,false,false,false,false,false,false,false,false,false,false,false,false,false,false,false,false,false,false] rfl rfl (qn HT_.out (by kernel_rfl)) (fun _ _ _ h=>h) (Or.inl ⟨by rfl,?_⟩) ?_ ?_;rotate_left
             ·intro w'
              go_simp
              with_reducible rfl
             rotate_left
             ·simp only [Act.put,qSa,qSb,qSc,qm,qq]
              rfl
             refine qw (i:=1) (N:=some 16) (v:=?_) (a':=?_) #[true,true,false,false,false,false,false,false,false,false,false,false,false,false,false,false,false,false,false,false,false,false,false,false,false,false,false,false,false,false] rfl rfl (qn HT_.out (by kernel_rfl)) (fun _ _ _ h=>h) (Or.inl ⟨by rfl,?_⟩) ?_ ?_;rotate_left
             ·intro w'
              go_simp
              with_reducible rfl
             rotate_left
             ·simp only [Act.put,qSa,qSb,qSc,qm,qq]
              rfl
             refine qw (i:=2) (N:=some 17) (v:=?_) (a':=?_) #[true,true,true,false,false,false,false,false,false,false,false,false,false,false,false,false,false,false,false,false,false,false,false,false,false,false,false,false,false,false] rfl rfl (qn HT_.out (by kernel_rfl)) (fun _ _ _ h=>h) (Or.inl ⟨by rfl,?_⟩) ?_ ?_;rotate_left
             ·intro w'
              go_simp
              with_reducible rfl
             rotate_left
             ·simp only [Act.put,qSa,qSb,qSc,qm,qq]
              rfl
             refine qw (i:=3) (N:=some 18) (v:=?_) (a':=?_) #[true,true,true,true,false,false,false,false,false,false,false,false,false,false,false,false,false,false,false,false,false,false,false,false,false,false,false,false,false,false] rfl rfl (qn HT_.out (by kernel_rfl)) (fun _ _ _ h=>h) (Or.inl ⟨by rfl,?_⟩) ?_ ?_;rotate_left
             ·intro w'
              go_simp
              with_reducible rfl
             rotate_left
             ·simp only [Act.put,qSa,qSb,qSc,qm,qq]
              rfl
             refine qw (i:=5) (N:=some 20) (v:=?_) (a':=?_) #[true,true,true,true,false,true,false,false,false,false,false,false,false,false,false,false,false,false,false,false,false,false,false,false,false,false,false,false,false,false] rfl rfl (qn HT_.out (by kernel_rfl)) (fun _ _ _ h=>h) (Or.inl ⟨by rfl,?_⟩) ?_ ?_;rotate_left
             ·intro w'
              go_simp
              with_reducible rfl
             rotate_left
             ·simp only [Act.put,qSa,qSb,qSc,qm,qq]
              rfl
             refine qw (i:=6) (N:=some 21) (v:=?_) (a':=?_) #[true,true,true,true,false,true,true,false,false,false,false,false,false,false,false,false,false,false,false,false,false,false,false,false,false,false,false,false,false,false] rfl rfl (qn HT_.out (by kernel_rfl)) (fun _ _ _ h=>h) (Or.inl ⟨by rfl,?_⟩) ?_ ?_;rotate_left
             ·intro w'
              go_simp
              with_reducible rfl
             rotate_left
             ·simp only [Act.put,qSa,qSb,qSc,qm,qq]
              rfl
             refine qw (i:=7) (N:=some 22) (v:=?_) (a':=?_) #[true,true,true,true,false,true,true,true,false,false,false,false,false,false,false,false,false,false,false,false,false,false,false,false,false,false,false,false,false,false] rfl rfl (qn HT_.out (by kernel_rfl)) (fun _ _ _ h=>h) (Or.inl ⟨by rfl,?_⟩) ?_ ?_;rotate_left
             ·intro w'
              go_simp
              with_reducible rfl
             rotate_left
             ·simp only [Act.put,qSa,qSb,qSc,qm,qq]
              rfl
             refine qw (i:=8) (N:=some 23) (v:=?_) (a':=?_) #[true,true,true,true,false,true,true,true,true,false,false,false,false,false,false,false,false,false,false,false,false,false,false,false,false,false,false,false,false,false] rfl rfl (qn HT_.out (by kernel_rfl)) (fun _ _ _ h=>h) (Or.inl ⟨by rfl,?_⟩) ?_ ?_;rotate_left
             ·intro w'
              go_simp
              with_reducible rfl
             rotate_left
             ·simp only [Act.put,qSa,qSb,qSc,qm,qq]
              rfl
             refine qw (i:=9) (N:=some 24) (v:=?_) (a':=?_) #[true,true,true,true,false,true,true,true,true,true,false,false,false,false,false,false,false,false,false,false,false,false,false,false,false,false,false,false,false,false] rfl rfl (qn HT_.out (by kernel_rfl)) (fun _ _ _ h=>h) (Or.inl ⟨by rfl,?_⟩) ?_ ?_;rotate_left
             ·intro w'
              go_simp
              with_reducible rfl
             rotate_left
             ·simp only [Act.put,qSa,qSb,qSc,qm,qq]
              rfl
             refine vZ (i:=4) (N:=some 19) (v:=?_) (a':=?_) #[true,true,true,true,true,true,true,true,true,true,false,false,false,false,false,false,false,false,false,false,false,false,false,false,false,false,false,false,false,false] rfl rfl (vu HT_.out HW_.out (by kernel_rfl)) (fun _ _ _ h=>h) (Or.inl ⟨by rfl,?_⟩) hHeld ?_ ?_;rotate_left
             ·rintro w' ⟨s0,s1,s2,s3,s4,s5⟩
              go_simp
              with_reducible rfl
             rotate_left
             ·simp only [Act.put,qSa,qSb,qSc,qm,qq]
              rfl
             refine vZ (i:=10) (N:=some 25) (v:=?_) (a':=?_) #[true,true,true,true,true,true,true,true,true,true,true,false,false,false,false,false,false,false,false,false,false,false,false,false,false,false,false,false,false,false] rfl rfl (vu HT_.out HW_.out (by kernel_rfl)) (fun _ _ _ h=>h) (Or.inl ⟨by rfl,?_⟩) hHeld ?_ ?_;rotate_left
             ·rintro w' ⟨s0,s1,s2,s3,s4,s5⟩
              go_simp
              with_reducible rfl
             rotate_left
             ·simp only [Act.put,qSa,qSb,qSc,qm,qq]
              rfl
             refine qw (i:=11) (N:=some 26) (v:=?_) (a':=?_) #[true,true,true,true,true,true,true,true,true,true,true,true,false,false,false,false,false,false,false,false,false,false,false,false,false,false,false,false,false,false] rfl rfl (qn HT_.out (by kernel_rfl)) (fun _ _ _ h=>h) (Or.inl ⟨by rfl,?_⟩) ?_ ?_;rotate_left
             ·intro w'
              go_simp
              with_reducible rfl
             rotate_left
             ·simp only [Act.put,qSa,qSb,qSc,qm,qq]
              rfl
             refine qw (i:=12) (N:=some 27) (v:=?_) (a':=?_) #[true,true,true,true,true,true,true,true,true,true,true,true,true,false,false,false,false,false,false,false,false,false,false,false,false,false,false,false,false,false] rfl rfl (qn HT_.out (by kernel_rfl)) (fun _ _ _ h=>h) (Or.inl ⟨by rfl,?_⟩) ?_ ?_;rotate_left
             ·intro w'
              go_simp
              with_reducible rfl
             rotate_left
             ·simp only [Act.put,qSa,qSb,qSc,qm,qq]
              rfl
             refine qw (i:=13) (N:=some 28) (v:=?_) (a':=?_) #[true,true,true,true,true,true,true,true,true,true,true,true,true,true,false,false,false,false,false,false,false,false,false,false,false,false,false,false,false,false] rfl rfl (qn HT_.out (by kernel_rfl)) (fun _ _ _ h=>h) (Or.inl ⟨by rfl,?_⟩) ?_ ?_;rotate_left
             ·intro w'
              go_simp
              with_reducible rfl
             rotate_left
             ·simp only [Act.put,qSa,qSb,qSc,qm,qq]
              rfl
             refine qw (i:=14) (N:=some 29) (v:=?_) (a':=?_) #[true,true,true,true,true,true,true,true,true,true,true,true,true,true,true,false,false,false,false,false,false,false,false,false,false,false,false,false,false,false] rfl rfl (qn HT_.out (by kernel_rfl)) (fun _ _ _ h=>h) (Or.inl ⟨by rfl,?_⟩) ?_ ?_;rotate_left
             ·intro w'
              go_simp
              with_reducible rfl
             rotate_left
             ·simp only [Act.put,qSa,qSb,qSc,qm,qq]
              rfl
             refine vZ (i:=15) (N:=some 30) (v:=?_) (a':=?_) #[true,true,true,true,true,true,true,true,true,true,true,true,true,true,true,true,false,false,false,false,false,false,false,false,false,false,false,false,false,false] rfl rfl (vu HT_.out HW_.out (by kernel_rfl)) (fun _ _ _ h=>h) (Or.inl ⟨by rfl,?_⟩) hHeld ?_ ?_;rotate_left
             ·rintro w' ⟨s0,s1,s2,s3,s4,s5⟩
              go_simp
              with_reducible rfl
             rotate_left
             ·simp only [Act.put,qSa,qSb,qSc,qm,qq]
              rfl
             refine zP (i:=16) (N:=some 31) #[true,true,true,true,true,true,true,true,true,true,true,true,true,true,true,true,true,false,false,false,false,false,false,false,false,false,false,false,false,false] rfl rfl (zm HT_.out (by kernel_rfl)) (by decide) (fun K hK=>?_);refine zy Tryd.func21 (by kernel_rfl) rfl #[.string ((qj l0 Aa).f0)] (by rfl) rfl rfl (by(try simp only [List.map_toArray,List.map_cons,List.map_nil]);first|done|rfl|(simp only [List.length_drop,List.length_take];rfl)) ?_
             with_reducible refine(zi.calls k1 ((qj l0 Aa).f0) true _ A11.out (HT.out.go (by repeat(first|(with_reducible first|exact HB.out|apply qd|apply qa|apply qc|refine qh ?_ Ag.out)|exact HB.out)))).mono ?_
             rintro e w32 ⟨rfl,hb⟩;refine⟨_,rfl,?_⟩;have Ak:=qb.mk (qJ (g:=Ac) (o:=.cells #[.string ((qj l0 Aa).f0),.string ((qj l0 Aa).f1),.int .i64 ((qj l0 Aa).f2)] 50 (0,0)) (by(with_reducible repeat(first|refine qp ?_ _|refine qu ?_|refine qo ?_ _));exact Ab.out) hb);have Am:=qb.mk (qB (by repeat(first|(with_reducible first|exact HB.out|apply qd|apply qa|apply qc|refine qh ?_ Ag.out)|exact HB.out)) hb);clear Ab;clear HB;have Ab:=Ak;have HB:=Am;clear Ak Am
             (try clear hb)
             (try clear hb2)
             (try clear hk)
             (try clear hi)
             refine hK.out _ _ ⟨(qe Ab.out 0).trans rfl,(qe Ab.out 1).trans rfl,(qe Ab.out 2).trans rfl,((HB.out.cell (World.block_lt_of_cell? w _ hw180_0)).trans hw180_0),((HB.out.cell (World.block_lt_of_cell? w _ hw180_1)).trans hw180_1),((HB.out.cell (World.block_lt_of_cell? w _ hw180_2)).trans hw180_2)⟩ (fun hHeld=>?_);clear hK K;refine zz (a':=?_) ?_ ?_;rotate_left
             ·show Act.put _ (some 31) _=_
              simp only [Act.put,qSa,qSb,qSc,qm,qq]
              rfl
             refine qw (i:=17) (N:=some 32) (v:=?_) (a':=?_) #[true,true,true,true,true,true,true,true,true,true,true,true,true,true,true,true,true,true,false,false,false,false,false,false,false,false,false,false,false,false] rfl rfl (qn HT_.out (by kernel_rfl)) (fun _ _ _ h=>h) (Or.inl ⟨by rfl,?_⟩) ?_ ?_;rotate_left
             ·intro w'
              go_simp
              with_reducible rfl
             rotate_left
             ·simp only [Act.put,qSa,qSb,qSc,qm,qq]
              rfl
             refine qw (i:=18) (N:=some 33) (v:=?_) (a':=?_) #[true,true,true,true,true,true,true,true,true,true,true,true,true,true,true,true,true,true,true,false,false,false,false,false,false,false,false,false,false,false] rfl rfl (qn HT_.out (by kernel_rfl)) (fun _ _ _ h=>h) (Or.inl ⟨by rfl,?_⟩) ?_ ?_;rotate_left
             ·intro w'
              go_simp
              with_reducible rfl
             rotate_left
             ·simp only [Act.put,qSa,qSb,qSc,qm,qq]
              rfl
             refine qw (i:=19) (N:=some 34) (v:=?_) (a':=?_) #[true,true,true,true,true,true,true,true,true,true,true,true,true,true,true,true,true,true,true,true,false,false,false,false,false,false,false,false,false,false] rfl rfl (qn HT_.out (by kernel_rfl)) (fun _ _ _ h=>h) (Or.inl ⟨by rfl,?_⟩) ?_ ?_;rotate_left
             ·intro w'
              go_simp
              with_reducible rfl
             rotate_left
             ·simp only [Act.put,qSa,qSb,qSc,qm,qq]
              rfl
             refine qw (i:=20) (N:=some 35) (v:=?_) (a':=?_) #[true,true,true,true,true,true,true,true,true,true,true,true,true,true,true,true,true,true,true,true,true,false,false,false,false,false,false,false,false,false] rfl rfl (qn HT_.out (by kernel_rfl)) (fun _ _ _ h=>h) (Or.inl ⟨by rfl,?_⟩) ?_ ?_;rotate_left
             ·intro w'
              go_simp
              with_reducible rfl
             rotate_left
             ·simp only [Act.put,qSa,qSb,qSc,qm,qq]
              rfl
             refine vZ (i:=21) (N:=some 36) (v:=?_) (a':=?_) #[true,true,true,true,true,true,true,true,true,true,true,true,true,true,true,true,true,true,true,true,true,true,false,false,false,false,false,false,false,false] rfl rfl (vu HT_.out HW_.out (by kernel_rfl)) (fun _ _ _ h=>h) (Or.inl ⟨by rfl,?_⟩) hHeld ?_ ?_;rotate_left
             ·rintro w' ⟨s0,s1,s2,s3,s4,s5⟩
              go_simp
              with_reducible rfl
             rotate_left
             ·simp only [Act.put,qSa,qSb,qSc,qm,qq]
              rfl
             refine zP (i:=22) (N:=some 37) #[true,true,true,true,true,true,true,true,true,true,true,true,true,true,true,true,true,true,true,true,true,true,true,false,false,false,false,false,false,false] rfl rfl (zm HT_.out (by kernel_rfl)) (by decide) (fun K hK=>?_);refine zy Tryd.func23 (by kernel_rfl) rfl #[.string ((qj l0 Aa).f1)] (by rfl) rfl rfl (by(try simp only [List.map_toArray,List.map_cons,List.map_nil]);first|done|rfl|(simp only [List.length_drop,List.length_take];rfl)) ?_
             with_reducible refine(vX.calls k1 ((qj l0 Aa).f1) false _ A13.out (HT.out.go (by repeat(first|(with_reducible first|exact HB.out|apply qd|apply qa|apply qc|refine qh ?_ Ag.out)|exact HB.out)))).mono ?_
             rintro e w33 ⟨rfl,hb⟩;refine⟨_,rfl,?_⟩;have Ak:=qb.mk (qJ (g:=Ac) (o:=.cells #[.string ((qj l0 Aa).f0),.string ((qj l0 Aa).f1),.int .i64 ((qj l0 Aa).f2)] 50 (0,0)) (by(with_reducible repeat(first|refine qp ?_ _|refine qu ?_|refine qo ?_ _));exact Ab.out) hb);have Am:=qb.mk (qB (by repeat(first|(with_reducible first|exact HB.out|apply qd|apply qa|apply qc|refine qh ?_ Ag.out)|exact HB.out)) hb);clear Ab;clear HB;have Ab:=Ak;have HB:=Am;clear Ak Am
             (try clear hb)
             (try clear hb2)
             (try clear hk)
             (try clear hi)
             refine hK.out _ _ ⟨(qe Ab.out 0).trans rfl,(qe Ab.out 1).trans rfl,(qe Ab.out 2).trans rfl,((HB.out.cell (World.block_lt_of_cell? w _ hw180_0)).trans hw180_0),((HB.out.cell (World.block_lt_of_cell? w _ hw180_1)).trans hw180_1),((HB.out.cell (World.block_lt_of_cell? w _ hw180_2)).trans hw180_2)⟩ (fun hHeld=>?_);clear hK K;refine zz (a':=?_) ?_ ?_;rotate_left
             ·show Act.put _ (some 37) _=_
              simp only [Act.put,qSa,qSb,qSc,qm,qq]
              rfl
             refine qw (i:=23) (N:=some 38) (v:=?_) (a':=?_) #[true,true,true,true,true,true,true,true,true,true,true,true,true,true,true,true,true,true,true,true,true,true,true,true,false,false,false,false,false,false] rfl rfl (qn HT_.out (by kernel_rfl)) (fun _ _ _ h=>h) (Or.inl ⟨by rfl,?_⟩) ?_ ?_;rotate_left
             ·intro w'
              go_simp
              with_reducible rfl
             rotate_left
             ·simp only [Act.put,qSa,qSb,qSc,qm,qq]
              rfl
             refine qw (i:=24) (N:=some 39) (v:=?_) (a':=?_) #[true,true,true,true,true,true,true,true,true,true,true,true,true,true,true,true,true,true,true,true,true,true,true,true,true,false,false,false,false,false] rfl rfl (qn HT_.out (by kernel_rfl)) (fun _ _ _ h=>h) (Or.inl ⟨by rfl,?_⟩) ?_ ?_;rotate_left
             ·intro w'
              go_simp
              with_reducible rfl
             rotate_left
             ·simp only [Act.put,qSa,qSb,qSc,qm,qq]
              rfl
             refine qw (i:=25) (N:=some 40) (v:=?_) (a':=?_) #[true,true,true,true,true,true,true,true,true,true,true,true,true,true,true,true,true,true,true,true,true,true,true,true,true,true,false,false,false,false] rfl rfl (qn HT_.out (by kernel_rfl)) (fun _ _ _ h=>h) (Or.inl ⟨by rfl,?_⟩) ?_ ?_;rotate_left
             ·intro w'
              go_simp
              with_reducible rfl
             rotate_left
             ·simp only [Act.put,qSa,qSb,qSc,qm,qq]
              rfl
             refine qw (i:=26) (N:=some 41) (v:=undef) (a':=?_) #[true,true,true,true,true,true,true,true,true,true,true,true,true,true,true,true,true,true,true,true,true,true,true,true,true,true,true,false,false,false] rfl rfl (qn HT_.out (by kernel_rfl)) (fun _ _ _ h=>h) (Or.inr ⟨by rfl,rfl⟩) ?_ ?_;rotate_left
             ·simp only [Act.put,qSa,qSb,qSc,qm,qq]
              rfl
             refine qw (i:=27) (N:=some 42) (v:=undef) (a':=?_) #[true,true,true,true,true,true,true,true,true,true,true,true,true,true,true,true,true,true,true,true,true,true,true,true,true,true,true,true,false,false] rfl rfl (qn HT_.out (by kernel_rfl)) (fun _ _ _ h=>h) (Or.inr ⟨by rfl,rfl⟩) ?_ ?_;rotate_left
             ·simp only [Act.put,qSa,qSb,qSc,qm,qq]
              rfl
             refine qw (i:=28) (N:=some 43) (v:=undef) (a':=?_) #[true,true,true,true,true,true,true,true,true,true,true,true,true,true,true,true,true,true,true,true,true,true,true,true,true,true,true,true,true,false] rfl rfl (qn HT_.out (by kernel_rfl)) (fun _ _ _ h=>h) (Or.inr ⟨by rfl,rfl⟩) ?_ ?_;rotate_left
             ·simp only [Act.put,qSa,qSb,qSc,qm,qq]
              rfl
             refine qw (i:=29) (N:=some 44) (v:=?_) (a':=?_) #[true,true,true,true,true,true,true,true,true,true,true,true,true,true,true,true,true,true,true,true,true,true,true,true,true,true,true,true,true,true] rfl rfl (qn HT_.out (by kernel_rfl)) (fun _ _ _ h=>h) (Or.inl ⟨by rfl,?_⟩) ?_ ?_;rotate_left
             ·intro w'
              go_simp
              with_reducible rfl
             rotate_left
             ·simp only [Act.put,qSa,qSb,qSc,qm,qq]
              rfl
             refine jn (zK HT_.out (by kernel_rfl)) ?_;try go_wp2
             go_ret
             exact⟨by first|rfl|(simp [qK,qL] <;> rfl)|(simp only [← Av];first|rfl|(simp [qK,qL] <;> rfl))|(simp [*,qK,qL] <;> rfl),by repeat(first|(with_reducible first|exact HB.out|apply qd|apply qa|apply qc|refine qh ?_ Ag.out)|exact HB.out)⟩
           ·replace c12:=Bool.eq_false_iff.mpr c12
            subst c12;have H1 : (some 3)=some r:=by rw [if_neg (show ¬ (false=true) by decide)] at H;exact H
            clear H;have H:=H1;clear H1;obtain rfl:=Option.some.inj H;have p178 : 0≤(Aa : Int):=of_decide_eq_true (by first|(with_reducible assumption)|assumption);have q178 : Aa<(l0.length : Int):=of_decide_eq_true (by first|(with_reducible assumption)|assumption);obtain⟨ad178,e178,Ad,Ae,Af⟩:=vY HR0.out Aa p178 q178
            cases e178
            replace Ad:=(HB.out.cell (World.block_lt_of_cell? w _ Ad)).trans Ad;replace Ae:=(HB.out.cell (World.block_lt_of_cell? w _ Ae)).trans Ae;replace Af:=(HB.out.cell (World.block_lt_of_cell? w _ Af)).trans Af;replace p178:=eq_true p178;replace q178:=eq_true q178;try go_wp2_with (first|((with_reducible refine vE (N:=4) rfl ?_);refine vD ?hg (N:=4) ?hd (cs:=#[.string (⟨#[]⟩ : ByteArray),.string (⟨#[]⟩ : ByteArray),.int .i64 0]) (t:=50) ?hr ?_;(case hd=>rfl);(case hg=>rfl);(case hr=>first|(go_simp;done)|(go_simp;rfl));intro Ac hg w34 hbox hb;have Ak:=qb.mk (qB (by repeat(first|(with_reducible first|exact HB.out|apply qd|apply qa|apply qc)|exact HB.out)) hb);have Am:=qb.mk (hbox);have Ap:=qb.mk ((by rw [hg];exact(qG (by repeat(first|(with_reducible first|exact HB.out|apply qd|apply qa|apply qc)|exact HB.out))) : w.heap.size≤Ac));have Aq:=qb.mk ((by rw [hg];exact(qG (by repeat(first|(with_reducible first|exact HB.out|apply qd|apply qa|apply qc)|exact HB.out))) : w.heap.size≤Ac));clear HB;have HB:=Ak;have Ab:=Am;have Ar:=Ap;have Ag:=Aq;clear Ak Am Ap Aq;clear hb hbox hg;have hcz35_0 : w34.cell? ⟨Ac,0,none⟩=some (.string (⟨#[]⟩ : ByteArray)):=(qe Ab.out 0).trans rfl;have hcz35_1 : w34.cell? ⟨Ac,1,none⟩=some (.string (⟨#[]⟩ : ByteArray)):=(qe Ab.out 1).trans rfl;have hcz35_2 : w34.cell? ⟨Ac,2,none⟩=some (.int .i64 0):=(qe Ab.out 2).trans rfl;have hfz35_0:=qg Ab.out 0;have hfz35_1:=qg Ab.out 1;have hfz35_2:=qg Ab.out 2))
            have Ak : qb ((((w34.setCell ⟨Ac,0,none⟩ (.string ((qj l0 Aa).f0))).setCell ⟨Ac,1,none⟩ (.string ((qj l0 Aa).f1))).setCell ⟨Ac,2,none⟩ (.int .i64 ((qj l0 Aa).f2))).heap[Ac]? = some (.cells #[.string ((qj l0 Aa).f0),.string ((qj l0 Aa).f1),.int .i64 ((qj l0 Aa).f2)] 50 (0,0))):=⟨by(with_reducible repeat(first|refine qp ?_ _|refine qu ?_|refine qo ?_ _));refine vC (cs:=#[.string ((qj l0 Aa).f0),.string ((qj l0 Aa).f1),.int .i64 0]) ?_ 2 _ rfl;(with_reducible repeat(first|refine qp ?_ _|refine qu ?_|refine qo ?_ _));refine vC (cs:=#[.string ((qj l0 Aa).f0),.string (⟨#[]⟩ : ByteArray),.int .i64 0]) ?_ 1 _ rfl;(with_reducible repeat(first|refine qp ?_ _|refine qu ?_|refine qo ?_ _));refine vC (cs:=#[.string (⟨#[]⟩ : ByteArray),.string (⟨#[]⟩ : ByteArray),.int .i64 0]) ?_ 0 _ rfl;(with_reducible repeat(first|refine qp ?_ _|refine qu ?_|refine qo ?_ _));exact Ab.out⟩;have Am : qb (Below w.heap.size w (((w34.setCell ⟨Ac,0,none⟩ (.string ((qj l0 Aa).f0))).setCell ⟨Ac,1,none⟩ (.string ((qj l0 Aa).f1))).setCell ⟨Ac,2,none⟩ (.int .i64 ((qj l0 Aa).f2)))):=⟨by repeat(first|(with_reducible first|exact HB.out|apply qd|apply qa|apply qc|refine qh ?_ Ag.out)|exact HB.out)⟩
            (try clear Ab)
            (try clear HB)
            generalize (((w34.setCell ⟨Ac,0,none⟩ (.string ((qj l0 Aa).f0))).setCell ⟨Ac,1,none⟩ (.string ((qj l0 Aa).f1))).setCell ⟨Ac,2,none⟩ (.int .i64 ((qj l0 Aa).f2)))=w36 at Ak Am ⊢
            have Ab:=Ak;have HB:=Am;clear Ak Am;have Ak:=qb.mk (qu Ab.out);have Am:=qb.mk (qc HB.out);clear Ab;clear HB;have Ab:=Ak;have HB:=Am;clear Ak Am;have p180 : 0≤((Ao) : Int):=of_decide_eq_true (by first|(with_reducible assumption)|assumption);have q180 : (Ao)<(l0.length : Int):=of_decide_eq_true (by first|(with_reducible assumption)|assumption);obtain⟨ad180,e180,Ah,Ai,Aj⟩:=vY HR0.out (Ao) p180 q180;have hw180_2:=Aj;have hw180_1:=Ai;have hw180_0:=Ah;obtain rfl : ad178=ad180:=(by injection e180);replace Ah:=(HB.out.cell (World.block_lt_of_cell? w _ Ah)).trans Ah;replace Ai:=(HB.out.cell (World.block_lt_of_cell? w _ Ai)).trans Ai;replace Aj:=(HB.out.cell (World.block_lt_of_cell? w _ Aj)).trans Aj;replace p180:=eq_true p180;replace q180:=eq_true q180;refine zS (n:=30) (S:=fun w'=>w'.cell? ⟨Ac,0,none⟩=some (.string ((qj l0 Aa).f0))∧w'.cell? ⟨Ac,1,none⟩=some (.string ((qj l0 Aa).f1))∧w'.cell? ⟨Ac,2,none⟩=some (.int .i64 ((qj l0 Aa).f2))∧w'.cell? (ad178.add (((Ao)).toNat * 3))=some (.string ((qj l0 (Ao)).f0))∧w'.cell? ⟨(ad178.add (((Ao)).toNat * 3)).block,(ad178.add (((Ao)).toNat * 3)).off + 1,none⟩=some (.string ((qj l0 (Ao)).f1))∧w'.cell? ⟨(ad178.add (((Ao)).toNat * 3)).block,(ad178.add (((Ao)).toNat * 3)).off + 2,none⟩=some (.int .i64 ((qj l0 (Ao)).f2))) (ds:=[]) #[false,false,false,false,false,false,false,false,false,false,false,false,false,false,false,false,false,false,false,false,false,false,false,false,false,false,false,false,false,false] (by kernel_rfl) rfl rfl ⟨(qe Ab.out 0).trans rfl,(qe Ab.out 1).trans rfl,(qe Ab.out 2).trans rfl,((HB.out.cell (World.block_lt_of_cell? w _ hw180_0)).trans hw180_0),((HB.out.cell (World.block_lt_of_cell? w _ hw180_1)).trans hw180_1),((HB.out.cell (World.block_lt_of_cell? w _ hw180_2)).trans hw180_2)⟩ (fun hHeld=>?_);refine zu qM.tab6 qM.bits6 (fun HT_ HW_=>?_)
            generalize w36.drew=w37 at Ab HB Ah Ai Aj hHeld ⊢
            refine qw (i:=0) (N:=some 15) (v:=?_) (a':=?_) #[true,false,false,false,false,false,false,false,false,false,false,false,false,false,false,false,false,false,false,false,false,false,false,false,false,false,false,false,false,false] rfl rfl (qn HT_.out (by kernel_rfl)) (fun _ _ _ h=>h) (Or.inl ⟨by rfl,?_⟩) ?_ ?_;rotate_left
            ·intro w'
             go_simp
             with_reducible rfl
            rotate_left
            ·simp only [Act.put,qSa,qSb,qSc,qm,qq]
             rfl
            refine qw (i:=1) (N:=some 16) (v:=?_) (a':=?_) #[true,true,false,false,false,false,false,false,false,false,false,false,false,false,false,false,false,false,false,false,false,false,false,false,false,false,false,false,false,false] rfl rfl (qn HT_.out (by kernel_rfl)) (fun _ _ _ h=>h) (Or.inl ⟨by rfl,?_⟩) ?_ ?_;rotate_left
            ·intro w'
             go_simp
             with_reducible rfl
            rotate_left
            ·simp only [Act.put,qSa,qSb,qSc,qm,qq]
             rfl
            refine qw (i:=2) (N:=some 17) (v:=?_) (a':=?_) #[true,true,true,false,false,false,false,false,false,false,false,false,false,false,false,false,false,false,false,false,false,false,false,false,false,false,false,false,false,false] rfl rfl (qn HT_.out (by kernel_rfl)) (fun _ _ _ h=>h) (Or.inl ⟨by rfl,?_⟩) ?_ ?_;rotate_left
            ·intro w'
             go_simp
             with_reducible rfl
            rotate_left
            ·simp only [Act.put,qSa,qSb,qSc,qm,qq]
             rfl
            refine qw (i:=3) (N:=some 18) (v:=?_) (a':=?_) #[true,true,true,true,false,false,false,false,false,false,false,false,false,false,false,false,false,false,false,false,false,false,false,false,false,false,false,false,false,false] rfl rfl (qn HT_.out (by kernel_rfl)) (fun _ _ _ h=>h) (Or.inl ⟨by rfl,?_⟩) ?_ ?_;rotate_left
            ·intro w'
             go_simp
             with_reducible rfl
            rotate_left
            ·simp only [Act.put,qSa,qSb,qSc,qm,qq]
             rfl
            refine qw (i:=5) (N:=some 20) (v:=?_) (a':=?_) #[true,true,true,true,false,true,false,false,false,false,false,false,false,false,false,false,false,false,false,false,false,false,false,false,false,false,false,false,false,false] rfl rfl (qn HT_.out (by kernel_rfl)) (fun _ _ _ h=>h) (Or.inl ⟨by rfl,?_⟩) ?_ ?_;rotate_left
            ·intro w'
             go_simp
             with_reducible rfl
            rotate_left
            ·simp only [Act.put,qSa,qSb,qSc,qm,qq]
             rfl
            refine qw (i:=6) (N:=some 21) (v:=?_) (a':=?_) #[true,true,true,true,false,true,true,false,false,false,false,false,false,false,false,false,false,false,false,false,false,false,false,false,false,false,false,false,false,false] rfl rfl (qn HT_.out (by kernel_rfl)) (fun _ _ _ h=>h) (Or.inl ⟨by rfl,?_⟩) ?_ ?_;rotate_left
            ·intro w'
             go_simp
             with_reducible rfl
            rotate_left
            ·simp only [Act.put,qSa,qSb,qSc,qm,qq]
             rfl
            refine qw (i:=7) (N:=some 22) (v:=?_) (a':=?_) #[true,true,true,true,false,true,true,true,false,false,false,false,false,false,false,false,false,false,false,false,false,false,false,false,false,false,false,false,false,false] rfl rfl (qn HT_.out (by kernel_rfl)) (fun _ _ _ h=>h) (Or.inl ⟨by rfl,?_⟩) ?_ ?_;rotate_left
            ·intro w'
             go_simp
             with_reducible rfl
            rotate_left
            ·simp only [Act.put,qSa,qSb,qSc,qm,qq]
             rfl
            refine qw (i:=8) (N:=some 23) (v:=?_) (a':=?_) #[true,true,true,true,false,true,true,true,true,false,false,false,false,false,false,false,false,false,false,false,false,false,false,false,false,false,false,false,false,false] rfl rfl (qn HT_.out (by kernel_rfl)) (fun _ _ _ h=>h) (Or.inl ⟨by rfl,?_⟩) ?_ ?_;rotate_left
            ·intro w'
             go_simp
             with_reducible rfl
            rotate_left
            ·simp only [Act.put,qSa,qSb,qSc,qm,qq]
             rfl
            refine qw (i:=9) (N:=some 24) (v:=?_) (a':=?_) #[true,true,true,true,false,true,true,true,true,true,false,false,false,false,false,false,false,false,false,false,false,false,false,false,false,false,false,false,false,false] rfl rfl (qn HT_.out (by kernel_rfl)) (fun _ _ _ h=>h) (Or.inl ⟨by rfl,?_⟩) ?_ ?_;rotate_left
            ·intro w'
             go_simp
             with_reducible rfl
            rotate_left
            ·simp only [Act.put,qSa,qSb,qSc,qm,qq]
             rfl
            refine vZ (i:=4) (N:=some 19) (v:=?_) (a':=?_) #[true,true,true,true,true,true,true,true,true,true,false,false,false,false,false,false,false,false,false,false,false,false,false,false,false,false,false,false,false,false] rfl rfl (vu HT_.out HW_.out (by kernel_rfl)) (fun _ _ _ h=>h) (Or.inl ⟨by rfl,?_⟩) hHeld ?_ ?_;rotate_left
            ·rintro w' ⟨s0,s1,s2,s3,s4,s5⟩
             go_simp
             with_reducible rfl
            rotate_left
            ·simp only [Act.put,qSa,qSb,qSc,qm,qq]
             rfl
            refine vZ (i:=10) (N:=some 25) (v:=?_) (a':=?_) #[true,true,true,true,true,true,true,true,true,true,true,false,false,false,false,false,false,false,false,false,false,false,false,false,false,false,false,false,false,false] rfl rfl (vu HT_.out HW_.out (by kernel_rfl)) (fun _ _ _ h=>h) (Or.inl ⟨by rfl,?_⟩) hHeld ?_ ?_;rotate_left
            ·rintro w' ⟨s0,s1,s2,s3,s4,s5⟩
             go_simp
             with_reducible rfl
            rotate_left
            ·simp only [Act.put,qSa,qSb,qSc,qm,qq]
             rfl
            refine qw (i:=11) (N:=some 26) (v:=?_) (a':=?_) #[true,true,true,true,true,true,true,true,true,true,true,true,false,false,false,false,false,false,false,false,false,false,false,false,false,false,false,false,false,false] rfl rfl (qn HT_.out (by kernel_rfl)) (fun _ _ _ h=>h) (Or.inl ⟨by rfl,?_⟩) ?_ ?_;rotate_left
            ·intro w'
             go_simp
             with_reducible rfl
            rotate_left
            ·simp only [Act.put,qSa,qSb,qSc,qm,qq]
             rfl
            refine qw (i:=12) (N:=some 27) (v:=?_) (a':=?_) #[true,true,true,true,true,true,true,true,true,true,true,true,true,false,false,false,false,false,false,false,false,false,false,false,false,false,false,false,false,false] rfl rfl (qn HT_.out (by kernel_rfl)) (fun _ _ _ h=>h) (Or.inl ⟨by rfl,?_⟩) ?_ ?_;rotate_left
            ·intro w'
             go_simp
             with_reducible rfl
            rotate_left
            ·simp only [Act.put,qSa,qSb,qSc,qm,qq]
             rfl
            refine qw (i:=13) (N:=some 28) (v:=?_) (a':=?_) #[true,true,true,true,true,true,true,true,true,true,true,true,true,true,false,false,false,false,false,false,false,false,false,false,false,false,false,false,false,false] rfl rfl (qn HT_.out (by kernel_rfl)) (fun _ _ _ h=>h) (Or.inl ⟨by rfl,?_⟩) ?_ ?_;rotate_left
            ·intro w'
             go_simp
             with_reducible rfl
            rotate_left
            ·simp only [Act.put,qSa,qSb,qSc,qm,qq]
             rfl
            refine qw (i:=14) (N:=some 29) (v:=?_) (a':=?_) #[true,true,true,true,true,true,true,true,true,true,true,true,true,true,true,false,false,false,false,false,false,false,false,false,false,false,false,false,false,false] rfl rfl (qn HT_.out (by kernel_rfl)) (fun _ _ _ h=>h) (Or.inl ⟨by rfl,?_⟩) ?_ ?_;rotate_left
            ·intro w'
             go_simp
             with_reducible rfl
            rotate_left
            ·simp only [Act.put,qSa,qSb,qSc,qm,qq]
             rfl
            refine vZ (i:=15) (N:=some 30) (v:=?_) (a':=?_) #[true,true,true,true,true,true,true,true,true,true,true,true,true,true,true,true,false,false,false,false,false,false,false,false,false,false,false,false,false,false] rfl rfl (vu HT_.out HW_.out (by kernel_rfl)) (fun _ _ _ h=>h) (Or.inl ⟨by rfl,?_⟩) hHeld ?_ ?_;rotate_left
            ·rintro w' ⟨s0,s1,s2,s3,s4,s5⟩
             go_simp
             with_reducible rfl
            rotate_left
            ·simp only [Act.put,qSa,qSb,qSc,qm,qq]
             rfl
            refine zP (i:=16) (N:=some 31) #[true,true,true,true,true,true,true,true,true,true,true,true,true,true,true,true,true,false,false,false,false,false,false,false,false,false,false,false,false,false] rfl rfl (zm HT_.out (by kernel_rfl)) (by decide) (fun K hK=>?_);refine zy Tryd.func21 (by kernel_rfl) rfl #[.string ((qj l0 Aa).f0)] (by rfl) rfl rfl (by(try simp only [List.map_toArray,List.map_cons,List.map_nil]);first|done|rfl|(simp only [List.length_drop,List.length_take];rfl)) ?_
            with_reducible refine(zi.calls k1 ((qj l0 Aa).f0) false _ A11.out (HT.out.go (by repeat(first|(with_reducible first|exact HB.out|apply qd|apply qa|apply qc|refine qh ?_ Ag.out)|exact HB.out)))).mono ?_
            rintro e w38 ⟨rfl,hb⟩;refine⟨_,rfl,?_⟩;have Ak:=qb.mk (qJ (g:=Ac) (o:=.cells #[.string ((qj l0 Aa).f0),.string ((qj l0 Aa).f1),.int .i64 ((qj l0 Aa).f2)] 50 (0,0)) (by(with_reducible repeat(first|refine qp ?_ _|refine qu ?_|refine qo ?_ _));exact Ab.out) hb);have Am:=qb.mk (qB (by repeat(first|(with_reducible first|exact HB.out|apply qd|apply qa|apply qc|refine qh ?_ Ag.out)|exact HB.out)) hb);clear Ab;clear HB;have Ab:=Ak;have HB:=Am;clear Ak Am
            (try clear hb)
            (try clear hb2)
            (try clear hk)
            (try clear hi)
            refine hK.out _ _ ⟨(qe Ab.out 0).trans rfl,(qe Ab.out 1).trans rfl,(qe Ab.out 2).trans rfl,((HB.out.cell (World.block_lt_of_cell? w _ hw180_0)).trans hw180_0),((HB.out.cell (World.block_lt_of_cell? w _ hw180_1)).trans hw180_1),((HB.out.cell (World.block_lt_of_cell? w _ hw180_2)).trans hw180_2)⟩ (fun hHeld=>?_);clear hK K;refine zz (a':=?_) ?_ ?_;rotate_left
            ·show Act.put _ (some 31) _=_
             simp only [Act.put,qSa,qSb,qSc,qm,qq]
             rfl
            refine qw (i:=17) (N:=some 32) (v:=?_) (a':=?_) #[true,true,true,true,true,true,true,true,true,true,true,true,true,true,true,true,true,true,false,false,false,false,false,false,false,false,false,false,false,false] rfl rfl (qn HT_.out (by kernel_rfl)) (fun _ _ _ h=>h) (Or.inl ⟨by rfl,?_⟩) ?_ ?_;rotate_left
            ·intro w'
             go_simp
             with_reducible rfl
            rotate_left
            ·simp only [Act.put,qSa,qSb,qSc,qm,qq]
             rfl
            refine qw (i:=18) (N:=some 33) (v:=?_) (a':=?_) #[true,true,true,true,true,true,true,true,true,true,true,true,true,true,true,true,true,true,true,false,false,false,false,false,false,false,false,false,false,false] rfl rfl (qn HT_.out (by kernel_rfl)) (fun _ _ _ h=>h) (Or.inl ⟨by rfl,?_⟩) ?_ ?_;rotate_left
            ·intro w'
             go_simp
             with_reducible rfl
            rotate_left
            ·simp only [Act.put,qSa,qSb,qSc,qm,qq]
             rfl
            refine qw (i:=19) (N:=some 34) (v:=?_) (a':=?_) #[true,true,true,true,true,true,true,true,true,true,true,true,true,true,true,true,true,true,true,true,false,false,false,false,false,false,false,false,false,false] rfl rfl (qn HT_.out (by kernel_rfl)) (fun _ _ _ h=>h) (Or.inl ⟨by rfl,?_⟩) ?_ ?_;rotate_left
            ·intro w'
             go_simp
             with_reducible rfl
            rotate_left
            ·simp only [Act.put,qSa,qSb,qSc,qm,qq]
             rfl
            refine qw (i:=20) (N:=some 35) (v:=undef) (a':=?_) #[true,true,true,true,true,true,true,true,true,true,true,true,true,true,true,true,true,true,true,true,true,false,false,false,false,false,false,false,false,false] rfl rfl (qn HT_.out (by kernel_rfl)) (fun _ _ _ h=>h) (Or.inr ⟨by rfl,rfl⟩) ?_ ?_;rotate_left
            ·simp only [Act.put,qSa,qSb,qSc,qm,qq]
             rfl
            refine qw (i:=21) (N:=some 36) (v:=undef) (a':=?_) #[true,true,true,true,true,true,true,true,true,true,true,true,true,true,true,true,true,true,true,true,true,true,false,false,false,false,false,false,false,false] rfl rfl (qn HT_.out (by kernel_rfl)) (fun _ _ _ h=>h) (Or.inr ⟨by rfl,rfl⟩) ?_ ?_;rotate_left
            ·simp only [Act.put,qSa,qSb,qSc,qm,qq]
             rfl
            refine qw (i:=22) (N:=some 37) (v:=undef) (a':=?_) #[true,true,true,true,true,true,true,true,true,true,true,true,true,true,true,true,true,true,true,true,true,true,true,false,false,false,false,false,false,false] rfl rfl (qn HT_.out (by kernel_rfl)) (fun _ _ _ h=>h) (Or.inr ⟨by rfl,rfl⟩) ?_ ?_;rotate_left
            ·simp only [Act.put,qSa,qSb,qSc,qm,qq]
             rfl
            refine qw (i:=23) (N:=some 38) (v:=undef) (a':=?_) #[true,true,true,true,true,true,true,true,true,true,true,true,true,true,true,true,true,true,true,true,true,true,true,true,false,false,false,false,false,false] rfl rfl (qn HT_.out (by kernel_rfl)) (fun _ _ _ h=>h) (Or.inr ⟨by rfl,rfl⟩) ?_ ?_;rotate_left
            ·simp only [Act.put,qSa,qSb,qSc,qm,qq]
             rfl
            refine qw (i:=24) (N:=some 39) (v:=?_) (a':=?_) #[true,true,true,true,true,true,true,true,true,true,true,true,true,true,true,true,true,true,true,true,true,true,true,true,true,false,false,false,false,false] rfl rfl (qn HT_.out (by kernel_rfl)) (fun _ _ _ h=>h) (Or.inl ⟨by rfl,?_⟩) ?_ ?_;rotate_left
            ·intro w'
             go_simp
             with_reducible rfl
            rotate_left
            ·simp only [Act.put,qSa,qSb,qSc,qm,qq]
             rfl
            refine qw (i:=25) (N:=some 40) (v:=?_) (a':=?_) #[true,true,true,true,true,true,true,true,true,true,true,true,true,true,true,true,true,true,true,true,true,true,true,true,true,true,false,false,false,false] rfl rfl (qn HT_.out (by kernel_rfl)) (fun _ _ _ h=>h) (Or.inl ⟨by rfl,?_⟩) ?_ ?_;rotate_left
            ·intro w'
             go_simp
             with_reducible rfl
            rotate_left
            ·simp only [Act.put,qSa,qSb,qSc,qm,qq]
             rfl
            refine qw (i:=26) (N:=some 41) (v:=undef) (a':=?_) #[true,true,true,true,true,true,true,true,true,true,true,true,true,true,true,true,true,true,true,true,true,true,true,true,true,true,true,false,false,false] rfl rfl (qn HT_.out (by kernel_rfl)) (fun _ _ _ h=>h) (Or.inr ⟨by rfl,rfl⟩) ?_ ?_;rotate_left
            ·simp only [Act.put,qSa,qSb,qSc,qm,qq]
             rfl
            refine qw (i:=27) (N:=some 42) (v:=undef) (a':=?_) #[true,true,true,true,true,true,true,true,true,true,true,true,true,true,true,true,true,true,true,true,true,true,true,true,true,true,true,true,false,false] rfl rfl (qn HT_.out (by kernel_rfl)) (fun _ _ _ h=>h) (Or.inr ⟨by rfl,rfl⟩) ?_ ?_;rotate_left
            ·simp only [Act.put,qSa,qSb,qSc,qm,qq]
             rfl
            refine qw (i:=28) (N:=some 43) (v:=undef) (a':=?_) #[true,true,true,true,true,true,true,true,true,true,true,true,true,true,true,true,true,true,true,true,true,true,true,true,true,true,true,true,true,false] rfl rfl (qn HT_.out (by kernel_rfl)) (fun _ _ _ h=>h) (Or.inr ⟨by rfl,rfl⟩) ?_ ?_;rotate_left
            ·simp only [Act.put,qSa,qSb,qSc,qm,qq]
             rfl
            refine qw (i:=29) (N:=some 44) (v:=?_) (a':=?_) #[true,true,true,true,true,true,true,true,true,true,true,true,true,true,true,true,true,true,true,true,true,true,true,true,true,true,true,true,true,true] rfl rfl (qn HT_.out (by kernel_rfl)) (fun _ _ _ h=>h) (Or.inl ⟨by rfl,?_⟩) ?_ ?_;rotate_left
            ·intro w'
             go_simp
             with_reducible rfl
            rotate_left
            ·simp only [Act.put,qSa,qSb,qSc,qm,qq]
             rfl
            refine jn (zK HT_.out (by kernel_rfl)) ?_;try go_wp2
            go_ret
            exact⟨by first|rfl|(simp [qK,qL] <;> rfl)|(simp only [← Av];first|rfl|(simp [qK,qL] <;> rfl))|(simp [*,qK,qL] <;> rfl),by repeat(first|(with_reducible first|exact HB.out|apply qd|apply qa|apply qc|refine qh ?_ Ag.out)|exact HB.out)⟩
          ·rw [if_neg c10] at H
           have c10b0 : (Op.bytesLess (((qj l0 (Ao)).f0).toList) (((qj l0 Aa).f0).toList))=false:=by simpa using c10
           clear c10;obtain rfl:=Option.some.inj H;have p178 : 0≤(Aa : Int):=of_decide_eq_true (by first|(with_reducible assumption)|assumption);have q178 : Aa<(l0.length : Int):=of_decide_eq_true (by first|(with_reducible assumption)|assumption);obtain⟨ad178,e178,Ad,Ae,Af⟩:=vY HR0.out Aa p178 q178
           cases e178
           replace Ad:=(HB.out.cell (World.block_lt_of_cell? w _ Ad)).trans Ad;replace Ae:=(HB.out.cell (World.block_lt_of_cell? w _ Ae)).trans Ae;replace Af:=(HB.out.cell (World.block_lt_of_cell? w _ Af)).trans Af;replace p178:=eq_true p178;replace q178:=eq_true q178;try go_wp2_with (first|((with_reducible refine vE (N:=4) rfl ?_);refine vD ?hg (N:=4) ?hd (cs:=#[.string (⟨#[]⟩ : ByteArray),.string (⟨#[]⟩ : ByteArray),.int .i64 0]) (t:=50) ?hr ?_;(case hd=>rfl);(case hg=>rfl);(case hr=>first|(go_simp;done)|(go_simp;rfl));intro Ac hg w39 hbox hb;have Ak:=qb.mk (qB (by repeat(first|(with_reducible first|exact HB.out|apply qd|apply qa|apply qc)|exact HB.out)) hb);have Am:=qb.mk (hbox);have Ap:=qb.mk ((by rw [hg];exact(qG (by repeat(first|(with_reducible first|exact HB.out|apply qd|apply qa|apply qc)|exact HB.out))) : w.heap.size≤Ac));have Aq:=qb.mk ((by rw [hg];exact(qG (by repeat(first|(with_reducible first|exact HB.out|apply qd|apply qa|apply qc)|exact HB.out))) : w.heap.size≤Ac));clear HB;have HB:=Ak;have Ab:=Am;have Ar:=Ap;have Ag:=Aq;clear Ak Am Ap Aq;clear hb hbox hg;have hcz40_0 : w39.cell? ⟨Ac,0,none⟩=some (.string (⟨#[]⟩ : ByteArray)):=(qe Ab.out 0).trans rfl;have hcz40_1 : w39.cell? ⟨Ac,1,none⟩=some (.string (⟨#[]⟩ : ByteArray)):=(qe Ab.out 1).trans rfl;have hcz40_2 : w39.cell? ⟨Ac,2,none⟩=some (.int .i64 0):=(qe Ab.out 2).trans rfl;have hfz40_0:=qg Ab.out 0;have hfz40_1:=qg Ab.out 1;have hfz40_2:=qg Ab.out 2))
           have Ak : qb ((((w39.setCell ⟨Ac,0,none⟩ (.string ((qj l0 Aa).f0))).setCell ⟨Ac,1,none⟩ (.string ((qj l0 Aa).f1))).setCell ⟨Ac,2,none⟩ (.int .i64 ((qj l0 Aa).f2))).heap[Ac]? = some (.cells #[.string ((qj l0 Aa).f0),.string ((qj l0 Aa).f1),.int .i64 ((qj l0 Aa).f2)] 50 (0,0))):=⟨by(with_reducible repeat(first|refine qp ?_ _|refine qu ?_|refine qo ?_ _));refine vC (cs:=#[.string ((qj l0 Aa).f0),.string ((qj l0 Aa).f1),.int .i64 0]) ?_ 2 _ rfl;(with_reducible repeat(first|refine qp ?_ _|refine qu ?_|refine qo ?_ _));refine vC (cs:=#[.string ((qj l0 Aa).f0),.string (⟨#[]⟩ : ByteArray),.int .i64 0]) ?_ 1 _ rfl;(with_reducible repeat(first|refine qp ?_ _|refine qu ?_|refine qo ?_ _));refine vC (cs:=#[.string (⟨#[]⟩ : ByteArray),.string (⟨#[]⟩ : ByteArray),.int .i64 0]) ?_ 0 _ rfl;(with_reducible repeat(first|refine qp ?_ _|refine qu ?_|refine qo ?_ _));exact Ab.out⟩;have Am : qb (Below w.heap.size w (((w39.setCell ⟨Ac,0,none⟩ (.string ((qj l0 Aa).f0))).setCell ⟨Ac,1,none⟩ (.string ((qj l0 Aa).f1))).setCell ⟨Ac,2,none⟩ (.int .i64 ((qj l0 Aa).f2)))):=⟨by repeat(first|(with_reducible first|exact HB.out|apply qd|apply qa|apply qc|refine qh ?_ Ag.out)|exact HB.out)⟩
           (try clear Ab)
           (try clear HB)
           generalize (((w39.setCell ⟨Ac,0,none⟩ (.string ((qj l0 Aa).f0))).setCell ⟨Ac,1,none⟩ (.string ((qj l0 Aa).f1))).setCell ⟨Ac,2,none⟩ (.int .i64 ((qj l0 Aa).f2)))=w41 at Ak Am ⊢
           have Ab:=Ak;have HB:=Am;clear Ak Am;have Ak:=qb.mk (qu Ab.out);have Am:=qb.mk (qc HB.out);clear Ab;clear HB;have Ab:=Ak;have HB:=Am;clear Ak Am;have p180 : 0≤((Ao) : Int):=of_decide_eq_true (by first|(with_reducible assumption)|assumption);have q180 : (Ao)<(l0.length : Int):=of_decide_eq_true (by first|(with_reducible assumption)|assumption);obtain⟨ad180,e180,Ah,Ai,Aj⟩:=vY HR0.out (Ao) p180 q180;have hw180_2:=Aj;have hw180_1:=Ai;have hw180_0:=Ah;obtain rfl : ad178=ad180:=(by injection e180);replace Ah:=(HB.out.cell (World.block_lt_of_cell? w _ Ah)).trans Ah;replace Ai:=(HB.out.cell (World.block_lt_of_cell? w _ Ai)).trans Ai;replace Aj:=(HB.out.cell (World.block_lt_of_cell? w _ Aj)).trans Aj;replace p180:=eq_true p180;replace q180:=eq_true q180;refine zS (n:=30) (S:=fun w'=>w'.cell? ⟨Ac,0,none⟩=some (.string ((qj l0 Aa).f0))∧w'.cell? ⟨Ac,1,none⟩=some (.string ((qj l0 Aa).f1))∧w'.cell? ⟨Ac,2,none⟩=some (.int .i64 ((qj l0 Aa).f2))∧w'.cell? (ad178.add (((Ao)).toNat * 3))=some (.string ((qj l0 (Ao)).f0))∧w'.cell? ⟨(ad178.add (((Ao)).toNat * 3)).block,(ad178.add (((Ao)).toNat * 3)).off + 1,none⟩=some (.string ((qj l0 (Ao)).f1))∧w'.cell? ⟨(ad178.add (((Ao)).toNat * 3)).block,(ad178.add (((Ao)).toNat * 3)).off + 2,none⟩=some (.int .i64 ((qj l0 (Ao)).f2))) (ds:=[]) #[false,false,false,false,false,false,false,false,false,false,false,false,false,false,false,false,false,false,false,false,false,false,false,false,false,false,false,false,false,false] (by kernel_rfl) rfl rfl ⟨(qe Ab.out 0).trans rfl,(qe Ab.out 1).trans rfl,(qe Ab.out 2).trans rfl,((HB.out.cell (World.block_lt_of_cell? w _ hw180_0)).trans hw180_0),((HB.out.cell (World.block_lt_of_cell? w _ hw180_1)).trans hw180_1),((HB.out.cell (World.block_lt_of_cell? w _ hw180_2)).trans hw180_2)⟩ (fun hHeld=>?_);refine zu qM.tab6 qM.bits6 (fun HT_ HW_=>?_)
           generalize w41.drew=w42 at Ab HB Ah Ai Aj hHeld ⊢
           refine qw (i:=0) (N:=some 15) (v:=?_) (a':=?_) #[true,false,false,false,false,false,false,false,false,false,false,false,false,false,false,false,false,false,false,false,false,false,false,false,false,false,false,false,false,false] rfl rfl (qn HT_.out (by kernel_rfl)) (fun _ _ _ h=>h) (Or.inl ⟨by rfl,?_⟩) ?_ ?_;rotate_left
           ·intro w'
            go_simp
            with_reducible rfl
           rotate_left
           ·simp only [Act.put,qSa,qSb,qSc,qm,qq]
            rfl
           refine qw (i:=1) (N:=some 16) (v:=?_) (a':=?_) #[true,true,false,false,false,false,false,false,false,false,false,false,false,false,false,false,false,false,false,false,false,false,false,false,false,false,false,false,false,false] rfl rfl (qn HT_.out (by kernel_rfl)) (fun _ _ _ h=>h) (Or.inl ⟨by rfl,?_⟩) ?_ ?_;rotate_left
           ·intro w'
            go_simp
            with_reducible rfl
           rotate_left
           ·simp only [Act.put,qSa,qSb,qSc,qm,qq]
            rfl
           refine qw (i:=2) (N:=some 17) (v:=?_) (a':=?_) #[true,true,true,false,false,false,false,false,false,false,false,false,false,false,false,false,false,false,false,false,false,false,false,false,false,false,false,false,false,false] rfl rfl (qn HT_.out (by kernel_rfl)) (fun _ _ _ h=>h) (Or.inl ⟨by rfl,?_⟩) ?_ ?_;rotate_left
           ·intro w'
            go_simp
            with_reducible rfl
           rotate_left
           ·simp only [Act.put,qSa,qSb,qSc,qm,qq]
            rfl
           refine qw (i:=3) (N:=some 18) (v:=?_) (a':=?_) #[true,true,true,true,false,false,false,false,false,false,false,false,false,false,false,false,false,false,false,false,false,false,false,false,false,false,false,false,false,false] rfl rfl (qn HT_.out (by kernel_rfl)) (fun _ _ _ h=>h) (Or.inl ⟨by rfl,?_⟩) ?_ ?_;rotate_left
           ·intro w'
            go_simp
            with_reducible rfl
           rotate_left
           ·simp only [Act.put,qSa,qSb,qSc,qm,qq]
            rfl
           refine qw (i:=5) (N:=some 20) (v:=?_) (a':=?_) #[true,true,true,true,false,true,false,false,false,false,false,false,false,false,false,false,false,false,false,false,false,false,false,false,false,false,false,false,false,false] rfl rfl (qn HT_.out (by kernel_rfl)) (fun _ _ _ h=>h) (Or.inl ⟨by rfl,?_⟩) ?_ ?_;rotate_left
           ·intro w'
            go_simp
            with_reducible rfl
           rotate_left
           ·simp only [Act.put,qSa,qSb,qSc,qm,qq]
            rfl
           refine qw (i:=6) (N:=some 21) (v:=?_) (a':=?_) #[true,true,true,true,false,true,true,false,false,false,false,false,false,false,false,false,false,false,false,false,false,false,false,false,false,false,false,false,false,false] rfl rfl (qn HT_.out (by kernel_rfl)) (fun _ _ _ h=>h) (Or.inl ⟨by rfl,?_⟩) ?_ ?_;rotate_left
           ·intro w'
            go_simp
            with_reducible rfl
           rotate_left
           ·simp only [Act.put,qSa,qSb,qSc,qm,qq]
            rfl
           refine qw (i:=7) (N:=some 22) (v:=?_) (a':=?_) #[true,true,true,true,false,true,true,true,false,false,false,false,false,false,false,false,false,false,false,false,false,false,false,false,false,false,false,false,false,false] rfl rfl (qn HT_.out (by kernel_rfl)) (fun _ _ _ h=>h) (Or.inl ⟨by rfl,?_⟩) ?_ ?_;rotate_left
           ·intro w'
            go_simp
            with_reducible rfl
           rotate_left
           ·simp only [Act.put,qSa,qSb,qSc,qm,qq]
            rfl
           refine qw (i:=8) (N:=some 23) (v:=?_) (a':=?_) #[true,true,true,true,false,true,true,true,true,false,false,false,false,false,false,false,false,false,false,false,false,false,false,false,false,false,false,false,false,false] rfl rfl (qn HT_.out (by kernel_rfl)) (fun _ _ _ h=>h) (Or.inl ⟨by rfl,?_⟩) ?_ ?_;rotate_left
           ·intro w'
            go_simp
            with_reducible rfl
           rotate_left
           ·simp only [Act.put,qSa,qSb,qSc,qm,qq]
            rfl
           refine qw (i:=9) (N:=some 24) (v:=?_) (a':=?_) #[true,true,true,true,false,true,true,true,true,true,false,false,false,false,false,false,false,false,false,false,false,false,false,false,false,false,false,false,false,false] rfl rfl (qn HT_.out (by kernel_rfl)) (fun _ _ _ h=>h) (Or.inl ⟨by rfl,?_⟩) ?_ ?_;rotate_left
           ·intro w'
            go_simp
            with_reducible rfl
           rotate_left
           ·simp only [Act.put,qSa,qSb,qSc,qm,qq]
            rfl
           refine vZ (i:=4) (N:=some 19) (v:=?_) (a':=?_) #[true,true,true,true,true,true,true,true,true,true,false,false,false,false,false,false,false,false,false,false,false,false,false,false,false,false,false,false,false,false] rfl rfl (vu HT_.out HW_.out (by kernel_rfl)) (fun _ _ _ h=>h) (Or.inl ⟨by rfl,?_⟩) hHeld ?_ ?_;rotate_left
           ·rintro w' ⟨s0,s1,s2,s3,s4,s5⟩
            go_simp
            with_reducible rfl
           rotate_left
           ·simp only [Act.put,qSa,qSb,qSc,qm,qq]
            rfl
           refine vZ (i:=10) (N:=some 25) (v:=?_) (a':=?_) #[true,true,true,true,true,true,true,true,true,true,true,false,false,false,false,false,false,false,false,false,false,false,false,false,false,false,false,false,false,false] rfl rfl (vu HT_.out HW_.out (by kernel_rfl)) (fun _ _ _ h=>h) (Or.inl ⟨by rfl,?_⟩) hHeld ?_ ?_;rotate_left
           ·rintro w' ⟨s0,s1,s2,s3,s4,s5⟩
            go_simp
            with_reducible rfl
           rotate_left
           ·simp only [Act.put,qSa,qSb,qSc,qm,qq]
            rfl
           refine qw (i:=11) (N:=some 26) (v:=?_) (a':=?_) #[true,true,true,true,true,true,true,true,true,true,true,true,false,false,false,false,false,false,false,false,false,false,false,false,false,false,false,false,false,false] rfl rfl (qn HT_.out (by kernel_rfl)) (fun _ _ _ h=>h) (Or.inl ⟨by rfl,?_⟩) ?_ ?_;rotate_left
           ·intro w'
            go_simp
            with_reducible rfl
           rotate_left
           ·simp only [Act.put,qSa,qSb,qSc,qm,qq]
            rfl
           refine qw (i:=12) (N:=some 27) (v:=?_) (a':=?_) #[true,true,true,true,true,true,true,true,true,true,true,true,true,false,false,false,false,false,false,false,false,false,false,false,false,false,false,false,false,false] rfl rfl (qn HT_.out (by kernel_rfl)) (fun _ _ _ h=>h) (Or.inl ⟨by rfl,?_⟩) ?_ ?_;rotate_left
           ·intro w'
            go_simp
            with_reducible rfl
           rotate_left
           ·simp only [Act.put,qSa,qSb,qSc,qm,qq]
            rfl
           refine qw (i:=13) (N:=some 28) (v:=?_) (a':=?_) #[true,true,true,true,true,true,true,true,true,true,true,true,true,true,false,false,false,false,false,false,false,false,false,false,false,false,false,false,false,false] rfl rfl (qn HT_.out (by kernel_rfl)) (fun _ _ _ h=>h) (Or.inl ⟨by rfl,?_⟩) ?_ ?_;rotate_left
           ·intro w'
            go_simp
            with_reducible rfl
           rotate_left
           ·simp only [Act.put,qSa,qSb,qSc,qm,qq]
            rfl
           refine qw (i:=14) (N:=some 29) (v:=undef) (a':=?_) #[true,true,true,true,true,true,true,true,true,true,true,true,true,true,true,false,false,false,false,false,false,false,false,false,false,false,false,false,false,false] rfl rfl (qn HT_.out (by kernel_rfl)) (fun _ _ _ h=>h) (Or.inr ⟨by rfl,rfl⟩) ?_ ?_;rotate_left
           ·simp only [Act.put,qSa,qSb,qSc,qm,qq]
            rfl
           refine qw (i:=15) (N:=some 30) (v:=undef) (a':=?_) #[true,true,true,true,true,true,true,true,true,true,true,true,true,true,true,true,false,false,false,false,false,false,false,false,false,false,false,false,false,false] rfl rfl (qn HT_.out (by kernel_rfl)) (fun _ _ _ h=>h) (Or.inr ⟨by rfl,rfl⟩) ?_ ?_;rotate_left
           ·simp only [Act.put,qSa,qSb,qSc,qm,qq]
            rfl
           refine qw (i:=16) (N:=some 31) (v:=undef) (a':=?_) #[true,true,true,true,true,true,true,true,true,true,true,true,true,true,true,true,true,false,false,false,false,false,false,false,false,false,false,false,false,false] rfl rfl (qn HT_.out (by kernel_rfl)) (fun _ _ _ h=>h) (Or.inr ⟨by rfl,rfl⟩) ?_ ?_;rotate_left
           ·simp only [Act.put,qSa,qSb,qSc,qm,qq]
            rfl
           refine qw (i:=17) (N:=some 32) (v:=undef) (a':=?_) #[true,true,true,true,true,true,true,true,true,true,true,true,true,true,true,true,true,true,false,false,false,false,false,false,false,false,false,false,false,false] rfl rfl (qn HT_.out (by kernel_rfl)) (fun _ _ _ h=>h) (Or.inr ⟨by rfl,rfl⟩) ?_ ?_;rotate_left
           ·simp only [Act.put,qSa,qSb,qSc,qm,qq]
            rfl
           refine qw (i:=18) (N:=some 33) (v:=?_) (a':=?_) #[true,true,true,true,true,true,true,true,true,true,true,true,true,true,true,true,true,true,true,false,false,false,false,false,false,false,false,false,false,false] rfl rfl (qn HT_.out (by kernel_rfl)) (fun _ _ _ h=>h) (Or.inl ⟨by rfl,?_⟩) ?_ ?_;rotate_left
           ·intro w'
            go_simp
            with_reducible rfl
           rotate_left
           ·simp only [Act.put,qSa,qSb,qSc,qm,qq]
            rfl
           refine qw (i:=19) (N:=some 34) (v:=?_) (a':=?_) #[true,true,true,true,true,true,true,true,true,true,true,true,true,true,true,true,true,true,true,true,false,false,false,false,false,false,false,false,false,false] rfl rfl (qn HT_.out (by kernel_rfl)) (fun _ _ _ h=>h) (Or.inl ⟨by rfl,?_⟩) ?_ ?_;rotate_left
           ·intro w'
            go_simp
            with_reducible rfl
           rotate_left
           ·simp only [Act.put,qSa,qSb,qSc,qm,qq]
            rfl
           refine qw (i:=20) (N:=some 35) (v:=undef) (a':=?_) #[true,true,true,true,true,true,true,true,true,true,true,true,true,true,true,true,true,true,true,true,true,false,false,false,false,false,false,false,false,false] rfl rfl (qn HT_.out (by kernel_rfl)) (fun _ _ _ h=>h) (Or.inr ⟨by rfl,rfl⟩) ?_ ?_;rotate_left
           ·simp only [Act.put,qSa,qSb,qSc,qm,qq]
            rfl
           refine qw (i:=21) (N:=some 36) (v:=undef) (a':=?_) #[true,true,true,true,true,true,true,true,true,true,true,true,true,true,true,true,true,true,true,true,true,true,false,false,false,false,false,false,false,false] rfl rfl (qn HT_.out (by kernel_rfl)) (fun _ _ _ h=>h) (Or.inr ⟨by rfl,rfl⟩) ?_ ?_;rotate_left
           ·simp only [Act.put,qSa,qSb,qSc,qm,qq]
            rfl
           refine qw (i:=22) (N:=some 37) (v:=undef) (a':=?_) #[true,true,true,true,true,true,true,true,true,true,true,true,true,true,true,true,true,true,true,true,true,true,true,false,false,false,false,false,false,false] rfl rfl (qn HT_.out (by kernel_rfl)) (fun _ _ _ h=>h) (Or.inr ⟨by rfl,rfl⟩) ?_ ?_;rotate_left
           ·simp only [Act.put,qSa,qSb,qSc,qm,qq]
            rfl
           refine qw (i:=23) (N:=some 38) (v:=undef) (a':=?_) #[true,true,true,true,true,true,true,true,true,true,true,true,true,true,true,true,true,true,true,true,true,true,true,true,false,false,false,false,false,false] rfl rfl (qn HT_.out (by kernel_rfl)) (fun _ _ _ h=>h) (Or.inr ⟨by rfl,rfl⟩) ?_ ?_;rotate_left
           ·simp only [Act.put,qSa,qSb,qSc,qm,qq]
            rfl
           refine qw (i:=24) (N:=some 39) (v:=?_) (a':=?_) #[true,true,true,true,true,true,true,true,true,true,true,true,true,true,true,true,true,true,true,true,true,true,true,true,true,false,false,false,false,false] rfl rfl (qn HT_.out (by kernel_rfl)) (fun _ _ _ h=>h) (Or.inl ⟨by rfl,?_⟩) ?_ ?_;rotate_left
           ·intro w'
            go_simp
            with_reducible rfl
           rotate_left
           ·simp only [Act.put,qSa,qSb,qSc,qm,qq]
            rfl
           refine qw (i:=25) (N:=some 40) (v:=?_) (a':=?_) #[true,true,true,true,true,true,true,true,true,true,true,true,true,true,true,true,true,true,true,true,true,true,true,true,true,true,false,false,false,false] rfl rfl (qn HT_.out (by kernel_rfl)) (fun _ _ _ h=>h) (Or.inl ⟨by rfl,?_⟩) ?_ ?_;rotate_left
           ·intro w'
            go_simp
            with_reducible rfl
           rotate_left
           ·simp only [Act.put,qSa,qSb,qSc,qm,qq]
            rfl
           refine qw (i:=26) (N:=some 41) (v:=undef) (a':=?_) #[true,true,true,true,true,true,true,true,true,true,true,true,true,true,true,true,true,true,true,true,true,true,true,true,true,true,true,false,false,false] rfl rfl (qn HT_.out (by kernel_rfl)) (fun _ _ _ h=>h) (Or.inr ⟨by rfl,rfl⟩) ?_ ?_;rotate_left
           ·simp only [Act.put,qSa,qSb,qSc,qm,qq]
            rfl
           refine qw (i:=27) (N:=some 42) (v:=undef) (a':=?_) #[true,true,true,true,true,true,true,true,true,true,true,true,true,true,true,true,true,true,true,true,true,true,true,true,true,true,true,true,false,false] rfl rfl (qn HT_.out (by kernel_rfl)) (fun _ _ _ h=>h) (Or.inr ⟨by rfl,rfl⟩) ?_ ?_;rotate_left
           ·simp only [Act.put,qSa,qSb,qSc,qm,qq]
            rfl
           refine qw (i:=28) (N:=some 43) (v:=undef) (a':=?_) #[true,true,true,true,true,true,true,true,true,true,true,true,true,true,true,true,true,true,true,true,true,true,true,true,true,true,true,true,true,false] rfl rfl (qn HT_.out (by kernel_rfl)) (fun _ _ _ h=>h) (Or.inr ⟨by rfl,rfl⟩) ?_ ?_;rotate_left
           ·simp only [Act.put,qSa,qSb,qSc,qm,qq]
            rfl
           refine qw (i:=29) (N:=some 44) (v:=?_) (a':=?_) #[true,true,true,true,true,true,true,true,true,true,true,true,true,true,true,true,true,true,true,true,true,true,true,true,true,true,true,true,true,true] rfl rfl (qn HT_.out (by kernel_rfl)) (fun _ _ _ h=>h) (Or.inl ⟨by rfl,?_⟩) ?_ ?_;rotate_left
           ·intro w'
            go_simp
            with_reducible rfl
           rotate_left
           ·simp only [Act.put,qSa,qSb,qSc,qm,qq]
            rfl
           refine jn (zK HT_.out (by kernel_rfl)) ?_;try go_wp2
           go_ret
           exact⟨by first|rfl|(simp [qK,qL] <;> rfl)|(simp only [← Av];first|rfl|(simp [qK,qL] <;> rfl))|(simp [*,qK,qL] <;> rfl),by repeat(first|(with_reducible first|exact HB.out|apply qd|apply qa|apply qc|refine qh ?_ Ag.out)|exact HB.out)⟩
         ·rw [if_neg c9] at H
          exact absurd H (by simp)
        ·rw [if_neg c8] at H
         exact absurd H (by simp)
       ·rw [if_neg c6] at H
        have c6b0 : decide (0<Aa)=false:=decide_eq_false c6;clear c6;replace H:=Option.bind_eq_some_iff.mp H;obtain⟨Ax,A430,H⟩:=H;replace H : (if Ax=true then((vX.f k1 ((qj l0 Aa).f1)).bind fun At=>(if At=true then(if((qj l0 Aa).f2)=0 then(qM.l0 k1 l0 l0 (l0.length : Int) (wrap64 (Aa + 1))) else(some 3)) else(some 3))) else(some 3))=some r:=H;have A43:=qb.mk A430;clear A430;by_cases c44 : Ax=true
        ·subst c44
         have H1 : ((vX.f k1 ((qj l0 Aa).f1)).bind fun At=>(if At=true then(if((qj l0 Aa).f2)=0 then(qM.l0 k1 l0 l0 (l0.length : Int) (wrap64 (Aa + 1))) else(some 3)) else(some 3)))=some r:=by rw [if_pos rfl] at H;exact H
         clear H;have H:=H1;clear H1;replace H:=Option.bind_eq_some_iff.mp H;obtain⟨At,A450,H⟩:=H;replace H : (if At=true then(if((qj l0 Aa).f2)=0 then(qM.l0 k1 l0 l0 (l0.length : Int) (wrap64 (Aa + 1))) else(some 3)) else(some 3))=some r:=H;have A45:=qb.mk A450;clear A450;by_cases c46 : At=true
         ·subst c46
          have H1 : (if((qj l0 Aa).f2)=0 then(qM.l0 k1 l0 l0 (l0.length : Int) (wrap64 (Aa + 1))) else(some 3))=some r:=by rw [if_pos rfl] at H;exact H
          clear H;have H:=H1;clear H1;by_cases Az : ((qj l0 Aa).f2)=0
          ·rw [if_pos Az] at H
           have c47b0 : (((qj l0 Aa).f2) == 0)=true:=beq_iff_eq.mpr Az;have c47b1 : (((qj l0 Aa).f2) != 0)=false:=bne_eq_false_iff_eq.mpr Az;clear Az;have H':=qb.mk H;clear H;have p178 : 0≤(Aa : Int):=of_decide_eq_true (by first|(with_reducible assumption)|assumption);have q178 : Aa<(l0.length : Int):=of_decide_eq_true (by first|(with_reducible assumption)|assumption);obtain⟨ad178,e178,Ad,Ae,Af⟩:=vY HR0.out Aa p178 q178
           cases e178
           replace Ad:=(HB.out.cell (World.block_lt_of_cell? w _ Ad)).trans Ad;replace Ae:=(HB.out.cell (World.block_lt_of_cell? w _ Ae)).trans Ae;replace Af:=(HB.out.cell (World.block_lt_of_cell? w _ Af)).trans Af;replace p178:=eq_true p178;replace q178:=eq_true q178;try go_wp2_with (first|((with_reducible refine vE (N:=4) rfl ?_);refine vD ?hg (N:=4) ?hd (cs:=#[.string (⟨#[]⟩ : ByteArray),.string (⟨#[]⟩ : ByteArray),.int .i64 0]) (t:=50) ?hr ?_;(case hd=>rfl);(case hg=>rfl);(case hr=>first|(go_simp;done)|(go_simp;rfl));intro Ac hg w48 hbox hb;have Ak:=qb.mk (qB (by repeat(first|(with_reducible first|exact HB.out|apply qd|apply qa|apply qc)|exact HB.out)) hb);have Am:=qb.mk (hbox);have Ap:=qb.mk ((by rw [hg];exact(qG (by repeat(first|(with_reducible first|exact HB.out|apply qd|apply qa|apply qc)|exact HB.out))) : w.heap.size≤Ac));have Aq:=qb.mk ((by rw [hg];exact(qG (by repeat(first|(with_reducible first|exact HB.out|apply qd|apply qa|apply qc)|exact HB.out))) : w.heap.size≤Ac));clear HB;have HB:=Ak;have Ab:=Am;have Ar:=Ap;have Ag:=Aq;clear Ak Am Ap Aq;clear hb hbox hg;have hcz49_0 : w48.cell? ⟨Ac,0,none⟩=some (.string (⟨#[]⟩ : ByteArray)):=(qe Ab.out 0).trans rfl;have hcz49_1 : w48.cell? ⟨Ac,1,none⟩=some (.string (⟨#[]⟩ : ByteArray)):=(qe Ab.out 1).trans rfl;have hcz49_2 : w48.cell? ⟨Ac,2,none⟩=some (.int .i64 0):=(qe Ab.out 2).trans rfl;have hfz49_0:=qg Ab.out 0;have hfz49_1:=qg Ab.out 1;have hfz49_2:=qg Ab.out 2))
           have Ak : qb ((((w48.setCell ⟨Ac,0,none⟩ (.string ((qj l0 Aa).f0))).setCell ⟨Ac,1,none⟩ (.string ((qj l0 Aa).f1))).setCell ⟨Ac,2,none⟩ (.int .i64 ((qj l0 Aa).f2))).heap[Ac]? = some (.cells #[.string ((qj l0 Aa).f0),.string ((qj l0 Aa).f1),.int .i64 ((qj l0 Aa).f2)] 50 (0,0))):=⟨by(with_reducible repeat(first|refine qp ?_ _|refine qu ?_|refine qo ?_ _));refine vC (cs:=#[.string ((qj l0 Aa).f0),.string ((qj l0 Aa).f1),.int .i64 0]) ?_ 2 _ rfl;(with_reducible repeat(first|refine qp ?_ _|refine qu ?_|refine qo ?_ _));refine vC (cs:=#[.string ((qj l0 Aa).f0),.string (⟨#[]⟩ : ByteArray),.int .i64 0]) ?_ 1 _ rfl;(with_reducible repeat(first|refine qp ?_ _|refine qu ?_|refine qo ?_ _));refine vC (cs:=#[.string (⟨#[]⟩ : ByteArray),.string (⟨#[]⟩ : ByteArray),.int .i64 0]) ?_ 0 _ rfl;(with_reducible repeat(first|refine qp ?_ _|refine qu ?_|refine qo ?_ _));exact Ab.out⟩;have Am : qb (Below w.heap.size w (((w48.setCell ⟨Ac,0,none⟩ (.string ((qj l0 Aa).f0))).setCell ⟨Ac,1,none⟩ (.string ((qj l0 Aa).f1))).setCell ⟨Ac,2,none⟩ (.int .i64 ((qj l0 Aa).f2)))):=⟨by repeat(first|(with_reducible first|exact HB.out|apply qd|apply qa|apply qc|refine qh ?_ Ag.out)|exact HB.out)⟩
           (try clear Ab)
           (try clear HB)
           generalize (((w48.setCell ⟨Ac,0,none⟩ (.string ((qj l0 Aa).f0))).setCell ⟨Ac,1,none⟩ (.string ((qj l0 Aa).f1))).setCell ⟨Ac,2,none⟩ (.int .i64 ((qj l0 Aa).f2)))=w50 at Ak Am ⊢
           have Ab:=Ak;have HB:=Am;clear Ak Am;have Ak:=qb.mk (qu Ab.out);have Am:=qb.mk (qc HB.out);clear Ab;clear HB;have Ab:=Ak;have HB:=Am;clear Ak Am;refine zS (n:=30) (S:=fun w'=>w'.cell? ⟨Ac,0,none⟩=some (.string ((qj l0 Aa).f0))∧w'.cell? ⟨Ac,1,none⟩=some (.string ((qj l0 Aa).f1))∧w'.cell? ⟨Ac,2,none⟩=some (.int .i64 ((qj l0 Aa).f2))) (ds:=[]) #[false,false,false,false,false,false,false,false,false,false,false,false,false,false,false,false,false,false,false,false,false,false,false,false,false,false,false,false,false,false] (by kernel_rfl) rfl rfl ⟨(qe Ab.out 0).trans rfl,(qe Ab.out 1).trans rfl,(qe Ab.out 2).trans rfl⟩ (fun hHeld=>?_);refine zu qM.tab6 qM.bits6 (fun HT_ HW_=>?_)
           generalize w50.drew=w51 at Ab HB hHeld ⊢
           refine qw (i:=0) (N:=some 15) (v:=?_) (a':=?_) #[true,false,false,false,false,false,false,false,false,false,false,false,false,false,false,false,false,false,false,false,false,false,false,false,false,false,false,false,false,false] rfl rfl (qn HT_.out (by kernel_rfl)) (fun _ _ _ h=>h) (Or.inl ⟨by rfl,?_⟩) ?_ ?_;rotate_left
           ·intro w'
            go_simp
            with_reducible rfl
           rotate_left
           ·simp only [Act.put,qSa,qSb,qSc,qm,qq]
            rfl
           refine qw (i:=1) (N:=some 16) (v:=?_) (a':=?_) #[true,true,false,false,false,false,false,false,false,false,false,false,false,false,false,false,false,false,false,false,false,false,false,false,false,false,false,false,false,false] rfl rfl (qn HT_.out (by kernel_rfl)) (fun _ _ _ h=>h) (Or.inl ⟨by rfl,?_⟩) ?_ ?_;rotate_left
           ·intro w'
            go_simp
            with_reducible rfl
           rotate_left
           ·simp only [Act.put,qSa,qSb,qSc,qm,qq]
            rfl
           refine qw (i:=2) (N:=some 17) (v:=?_) (a':=?_) #[true,true,true,false,false,false,false,false,false,false,false,false,false,false,false,false,false,false,false,false,false,false,false,false,false,false,false,false,false,false] rfl rfl (qn HT_.out (by kernel_rfl)) (fun _ _ _ h=>h) (Or.inl ⟨by rfl,?_⟩) ?_ ?_;rotate_left
           ·intro w'
            go_simp
            with_reducible rfl
           rotate_left
           ·simp only [Act.put,qSa,qSb,qSc,qm,qq]
            rfl
           refine qw (i:=3) (N:=some 18) (v:=undef) (a':=?_) #[true,true,true,true,false,false,false,false,false,false,false,false,false,false,false,false,false,false,false,false,false,false,false,false,false,false,false,false,false,false] rfl rfl (qn HT_.out (by kernel_rfl)) (fun _ _ _ h=>h) (Or.inr ⟨by rfl,rfl⟩) ?_ ?_;rotate_left
           ·simp only [Act.put,qSa,qSb,qSc,qm,qq]
            rfl
           refine qw (i:=4) (N:=some 19) (v:=undef) (a':=?_) #[true,true,true,true,true,false,false,false,false,false,false,false,false,false,false,false,false,false,false,false,false,false,false,false,false,false,false,false,false,false] rfl rfl (qn HT_.out (by kernel_rfl)) (fun _ _ _ h=>h) (Or.inr ⟨by rfl,rfl⟩) ?_ ?_;rotate_left
           ·simp only [Act.put,qSa,qSb,qSc,qm,qq]
            rfl
           refine qw (i:=5) (N:=some 20) (v:=undef) (a':=?_) #[true,true,true,true,true,true,false,false,false,false,false,false,false,false,false,false,false,false,false,false,false,false,false,false,false,false,false,false,false,false] rfl rfl (qn HT_.out (by kernel_rfl)) (fun _ _ _ h=>h) (Or.inr ⟨by rfl,rfl⟩) ?_ ?_;rotate_left
           ·simp only [Act.put,qSa,qSb,qSc,qm,qq]
            rfl
           refine qw (i:=6) (N:=some 21) (v:=undef) (a':=?_) #[true,true,true,true,true,true,true,false,false,false,false,false,false,false,false,false,false,false,false,false,false,false,false,false,false,false,false,false,false,false] rfl rfl (qn HT_.out (by kernel_rfl)) (fun _ _ _ h=>h) (Or.inr ⟨by rfl,rfl⟩) ?_ ?_;rotate_left
           ·simp only [Act.put,qSa,qSb,qSc,qm,qq]
            rfl
           refine qw (i:=7) (N:=some 22) (v:=undef) (a':=?_) #[true,true,true,true,true,true,true,true,false,false,false,false,false,false,false,false,false,false,false,false,false,false,false,false,false,false,false,false,false,false] rfl rfl (qn HT_.out (by kernel_rfl)) (fun _ _ _ h=>h) (Or.inr ⟨by rfl,rfl⟩) ?_ ?_;rotate_left
           ·simp only [Act.put,qSa,qSb,qSc,qm,qq]
            rfl
           refine qw (i:=8) (N:=some 23) (v:=undef) (a':=?_) #[true,true,true,true,true,true,true,true,true,false,false,false,false,false,false,false,false,false,false,false,false,false,false,false,false,false,false,false,false,false] rfl rfl (qn HT_.out (by kernel_rfl)) (fun _ _ _ h=>h) (Or.inr ⟨by rfl,rfl⟩) ?_ ?_;rotate_left
           ·simp only [Act.put,qSa,qSb,qSc,qm,qq]
            rfl
           refine qw (i:=9) (N:=some 24) (v:=undef) (a':=?_) #[true,true,true,true,true,true,true,true,true,true,false,false,false,false,false,false,false,false,false,false,false,false,false,false,false,false,false,false,false,false] rfl rfl (qn HT_.out (by kernel_rfl)) (fun _ _ _ h=>h) (Or.inr ⟨by rfl,rfl⟩) ?_ ?_;rotate_left
           ·simp only [Act.put,qSa,qSb,qSc,qm,qq]
            rfl
           refine qw (i:=10) (N:=some 25) (v:=undef) (a':=?_) #[true,true,true,true,true,true,true,true,true,true,true,false,false,false,false,false,false,false,false,false,false,false,false,false,false,false,false,false,false,false] rfl rfl (qn HT_.out (by kernel_rfl)) (fun _ _ _ h=>h) (Or.inr ⟨by rfl,rfl⟩) ?_ ?_;rotate_left
           ·simp only [Act.put,qSa,qSb,qSc,qm,qq]
            rfl
           refine qw (i:=11) (N:=some 26) (v:=undef) (a':=?_) #[true,true,true,true,true,true,true,true,true,true,true,true,false,false,false,false,false,false,false,false,false,false,false,false,false,false,false,false,false,false] rfl rfl (qn HT_.out (by kernel_rfl)) (fun _ _ _ h=>h) (Or.inr ⟨by rfl,rfl⟩) ?_ ?_;rotate_left
           ·simp only [Act.put,qSa,qSb,qSc,qm,qq]
            rfl
           refine qw (i:=12) (N:=some 27) (v:=?_) (a':=?_) #[true,true,true,true,true,true,true,true,true,true,true,true,true,false,false,false,false,false,false,false,false,false,false,false,false,false,false,false,false,false] rfl rfl (qn HT_.out (by kernel_rfl)) (fun _ _ _ h=>h) (Or.inl ⟨by rfl,?_⟩) ?_ ?_;rotate_left
           ·intro w'
            go_simp
            with_reducible rfl
           rotate_left
           ·simp only [Act.put,qSa,qSb,qSc,qm,qq]
            rfl
           refine qw (i:=13) (N:=some 28) (v:=?_) (a':=?_) #[true,true,true,true,true,true,true,true,true,true,true,true,true,true,false,false,false,false,false,false,false,false,false,false,false,false,false,false,false,false] rfl rfl (qn HT_.out (by kernel_rfl)) (fun _ _ _ h=>h) (Or.inl ⟨by rfl,?_⟩) ?_ ?_;rotate_left
           ·intro w'
            go_simp
            with_reducible rfl
           rotate_left
           ·simp only [Act.put,qSa,qSb,qSc,qm,qq]
            rfl
           refine qw (i:=14) (N:=some 29) (v:=?_) (a':=?_) #[true,true,true,true,true,true,true,true,true,true,true,true,true,true,true,false,false,false,false,false,false,false,false,false,false,false,false,false,false,false] rfl rfl (qn HT_.out (by kernel_rfl)) (fun _ _ _ h=>h) (Or.inl ⟨by rfl,?_⟩) ?_ ?_;rotate_left
           ·intro w'
            go_simp
            with_reducible rfl
           rotate_left
           ·simp only [Act.put,qSa,qSb,qSc,qm,qq]
            rfl
           refine vZ (i:=15) (N:=some 30) (v:=?_) (a':=?_) #[true,true,true,true,true,true,true,true,true,true,true,true,true,true,true,true,false,false,false,false,false,false,false,false,false,false,false,false,false,false] rfl rfl (vu HT_.out HW_.out (by kernel_rfl)) (fun _ _ _ h=>h) (Or.inl ⟨by rfl,?_⟩) hHeld ?_ ?_;rotate_left
           ·rintro w' ⟨s0,s1,s2⟩
            go_simp
            with_reducible rfl
           rotate_left
           ·simp only [Act.put,qSa,qSb,qSc,qm,qq]
            rfl
           refine zP (i:=16) (N:=some 31) #[true,true,true,true,true,true,true,true,true,true,true,true,true,true,true,true,true,false,false,false,false,false,false,false,false,false,false,false,false,false] rfl rfl (zm HT_.out (by kernel_rfl)) (by decide) (fun K hK=>?_);refine zy Tryd.func21 (by kernel_rfl) rfl #[.string ((qj l0 Aa).f0)] (by rfl) rfl rfl (by(try simp only [List.map_toArray,List.map_cons,List.map_nil]);first|done|rfl|(simp only [List.length_drop,List.length_take];rfl)) ?_
           with_reducible refine(zi.calls k1 ((qj l0 Aa).f0) true _ A43.out (HT.out.go (by repeat(first|(with_reducible first|exact HB.out|apply qd|apply qa|apply qc|refine qh ?_ Ag.out)|exact HB.out)))).mono ?_
           rintro e w52 ⟨rfl,hb⟩;refine⟨_,rfl,?_⟩;have Ak:=qb.mk (qJ (g:=Ac) (o:=.cells #[.string ((qj l0 Aa).f0),.string ((qj l0 Aa).f1),.int .i64 ((qj l0 Aa).f2)] 50 (0,0)) (by(with_reducible repeat(first|refine qp ?_ _|refine qu ?_|refine qo ?_ _));exact Ab.out) hb);have Am:=qb.mk (qB (by repeat(first|(with_reducible first|exact HB.out|apply qd|apply qa|apply qc|refine qh ?_ Ag.out)|exact HB.out)) hb);clear Ab;clear HB;have Ab:=Ak;have HB:=Am;clear Ak Am
           (try clear hb)
           (try clear hb2)
           (try clear hk)
           (try clear hi)
           refine hK.out _ _ ⟨(qe Ab.out 0).trans rfl,(qe Ab.out 1).trans rfl,(qe Ab.out 2).trans rfl⟩ (fun hHeld=>?_);clear hK K;refine zz (a':=?_) ?_ ?_;rotate_left
           ·show Act.put _ (some 31) _=_
            simp only [Act.put,qSa,qSb,qSc,qm,qq]
            rfl
           refine qw (i:=17) (N:=some 32) (v:=?_) (a':=?_) #[true,true,true,true,true,true,true,true,true,true,true,true,true,true,true,true,true,true,false,false,false,false,false,false,false,false,false,false,false,false] rfl rfl (qn HT_.out (by kernel_rfl)) (fun _ _ _ h=>h) (Or.inl ⟨by rfl,?_⟩) ?_ ?_;rotate_left
           ·intro w'
            go_simp
            with_reducible rfl
           rotate_left
           ·simp only [Act.put,qSa,qSb,qSc,qm,qq]
            rfl
           refine qw (i:=18) (N:=some 33) (v:=?_) (a':=?_) #[true,true,true,true,true,true,true,true,true,true,true,true,true,true,true,true,true,true,true,false,false,false,false,false,false,false,false,false,false,false] rfl rfl (qn HT_.out (by kernel_rfl)) (fun _ _ _ h=>h) (Or.inl ⟨by rfl,?_⟩) ?_ ?_;rotate_left
           ·intro w'
            go_simp
            with_reducible rfl
           rotate_left
           ·simp only [Act.put,qSa,qSb,qSc,qm,qq]
            rfl
           refine qw (i:=19) (N:=some 34) (v:=?_) (a':=?_) #[true,true,true,true,true,true,true,true,true,true,true,true,true,true,true,true,true,true,true,true,false,false,false,false,false,false,false,false,false,false] rfl rfl (qn HT_.out (by kernel_rfl)) (fun _ _ _ h=>h) (Or.inl ⟨by rfl,?_⟩) ?_ ?_;rotate_left
           ·intro w'
            go_simp
            with_reducible rfl
           rotate_left
           ·simp only [Act.put,qSa,qSb,qSc,qm,qq]
            rfl
           refine qw (i:=20) (N:=some 35) (v:=?_) (a':=?_) #[true,true,true,true,true,true,true,true,true,true,true,true,true,true,true,true,true,true,true,true,true,false,false,false,false,false,false,false,false,false] rfl rfl (qn HT_.out (by kernel_rfl)) (fun _ _ _ h=>h) (Or.inl ⟨by rfl,?_⟩) ?_ ?_;rotate_left
           ·intro w'
            go_simp
            with_reducible rfl
           rotate_left
           ·simp only [Act.put,qSa,qSb,qSc,qm,qq]
            rfl
           refine vZ (i:=21) (N:=some 36) (v:=?_) (a':=?_) #[true,true,true,true,true,true,true,true,true,true,true,true,true,true,true,true,true,true,true,true,true,true,false,false,false,false,false,false,false,false] rfl rfl (vu HT_.out HW_.out (by kernel_rfl)) (fun _ _ _ h=>h) (Or.inl ⟨by rfl,?_⟩) hHeld ?_ ?_;rotate_left
           ·rintro w' ⟨s0,s1,s2⟩
            go_simp
            with_reducible rfl
           rotate_left
           ·simp only [Act.put,qSa,qSb,qSc,qm,qq]
            rfl
           refine zP (i:=22) (N:=some 37) #[true,true,true,true,true,true,true,true,true,true,true,true,true,true,true,true,true,true,true,true,true,true,true,false,false,false,false,false,false,false] rfl rfl (zm HT_.out (by kernel_rfl)) (by decide) (fun K hK=>?_);refine zy Tryd.func23 (by kernel_rfl) rfl #[.string ((qj l0 Aa).f1)] (by rfl) rfl rfl (by(try simp only [List.map_toArray,List.map_cons,List.map_nil]);first|done|rfl|(simp only [List.length_drop,List.length_take];rfl)) ?_
           with_reducible refine(vX.calls k1 ((qj l0 Aa).f1) true _ A45.out (HT.out.go (by repeat(first|(with_reducible first|exact HB.out|apply qd|apply qa|apply qc|refine qh ?_ Ag.out)|exact HB.out)))).mono ?_
           rintro e w53 ⟨rfl,hb⟩;refine⟨_,rfl,?_⟩;have Ak:=qb.mk (qJ (g:=Ac) (o:=.cells #[.string ((qj l0 Aa).f0),.string ((qj l0 Aa).f1),.int .i64 ((qj l0 Aa).f2)] 50 (0,0)) (by(with_reducible repeat(first|refine qp ?_ _|refine qu ?_|refine qo ?_ _));exact Ab.out) hb);have Am:=qb.mk (qB (by repeat(first|(with_reducible first|exact HB.out|apply qd|apply qa|apply qc|refine qh ?_ Ag.out)|exact HB.out)) hb);clear Ab;clear HB;have Ab:=Ak;have HB:=Am;clear Ak Am
           (try clear hb)
           (try clear hb2)
           (try clear hk)
           (try clear hi)
           refine hK.out _ _ ⟨(qe Ab.out 0).trans rfl,(qe Ab.out 1).trans rfl,(qe Ab.out 2).trans rfl⟩ (fun hHeld=>?_);clear hK K;refine zz (a':=?_) ?_ ?_;rotate_left
           ·show Act.put _ (some 37) _=_
            simp only [Act.put,qSa,qSb,qSc,qm,qq]
            rfl
           refine qw (i:=23) (N:=some 38) (v:=?_) (a':=?_) #[true,true,true,true,true,true,true,true,true,true,true,true,true,true,true,true,true,true,true,true,true,true,true,true,false,false,false,false,false,false] rfl rfl (qn HT_.out (by kernel_rfl)) (fun _ _ _ h=>h) (Or.inl ⟨by rfl,?_⟩) ?_ ?_;rotate_left
           ·intro w'
            go_simp
            with_reducible rfl
           rotate_left
           ·simp only [Act.put,qSa,qSb,qSc,qm,qq]
            rfl
           refine qw (i:=24) (N:=some 39) (v:=?_) (a':=?_) #[true,true,true,true,true,true,true,true,true,true,true,true,true,true,true,true,true,true,true,true,true,true,true,true,true,false,false,false,false,false] rfl rfl (qn HT_.out (by kernel_rfl)) (fun _ _ _ h=>h) (Or.inl ⟨by rfl,?_⟩) ?_ ?_;rotate_left
           ·intro w'
            go_simp
            with_reducible rfl
           rotate_left
           ·simp only [Act.put,qSa,qSb,qSc,qm,qq]
            rfl
           refine qw (i:=25) (N:=some 40) (v:=?_) (a':=?_) #[true,true,true,true,true,true,true,true,true,true,true,true,true,true,true,true,true,true,true,true,true,true,true,true,true,true,false,false,false,false] rfl rfl (qn HT_.out (by kernel_rfl)) (fun _ _ _ h=>h) (Or.inl ⟨by rfl,?_⟩) ?_ ?_;rotate_left
           ·intro w'
            go_simp
            with_reducible rfl
           rotate_left
           ·simp only [Act.put,qSa,qSb,qSc,qm,qq]
            rfl
           refine qw (i:=26) (N:=some 41) (v:=?_) (a':=?_) #[true,true,true,true,true,true,true,true,true,true,true,true,true,true,true,true,true,true,true,true,true,true,true,true,true,true,true,false,false,false] rfl rfl (qn HT_.out (by kernel_rfl)) (fun _ _ _ h=>h) (Or.inl ⟨by rfl,?_⟩) ?_ ?_;rotate_left
           ·intro w'
            go_simp
            with_reducible rfl
           rotate_left
           ·simp only [Act.put,qSa,qSb,qSc,qm,qq]
            rfl
           refine vZ (i:=27) (N:=some 42) (v:=?_) (a':=?_) #[true,true,true,true,true,true,true,true,true,true,true,true,true,true,true,true,true,true,true,true,true,true,true,true,true,true,true,true,false,false] rfl rfl (vu HT_.out HW_.out (by kernel_rfl)) (fun _ _ _ h=>h) (Or.inl ⟨by rfl,?_⟩) hHeld ?_ ?_;rotate_left
           ·rintro w' ⟨s0,s1,s2⟩
            go_simp
            with_reducible rfl
           rotate_left
           ·simp only [Act.put,qSa,qSb,qSc,qm,qq]
            rfl
           refine qw (i:=28) (N:=some 43) (v:=?_) (a':=?_) #[true,true,true,true,true,true,true,true,true,true,true,true,true,true,true,true,true,true,true,true,true,true,true,true,true,true,true,true,true,false] rfl rfl (qn HT_.out (by kernel_rfl)) (fun _ _ _ h=>h) (Or.inl ⟨by rfl,?_⟩) ?_ ?_;rotate_left
           ·intro w'
            go_simp
            with_reducible rfl
           rotate_left
           ·simp only [Act.put,qSa,qSb,qSc,qm,qq]
            rfl
           refine qw (i:=29) (N:=some 44) (v:=?_) (a':=?_) #[true,true,true,true,true,true,true,true,true,true,true,true,true,true,true,true,true,true,true,true,true,true,true,true,true,true,true,true,true,true] rfl rfl (qn HT_.out (by kernel_rfl)) (fun _ _ _ h=>h) (Or.inl ⟨by rfl,?_⟩) ?_ ?_;rotate_left
           ·intro w'
            go_simp
            with_reducible rfl
           rotate_left
           ·simp only [Act.put,qSa,qSb,qSc,qm,qq]
            rfl
           refine jn (zK HT_.out (by kernel_rfl)) ?_;try go_wp2
           go_roundg k1
           case measure=>have:=HK1.out;omega
           case rel=>exact⟨(wrap64 (Aa + 1)),(by first|rfl|(simp;done)|(simp [*];done)),H',⟨by have:=HK1.out;omega⟩,⟨by repeat(first|(with_reducible first|exact HB.out|apply qd|apply qa|apply qc|refine qh ?_ Ag.out)|exact HB.out)⟩⟩
          ·rw [if_neg Az] at H
           have c47b0 : (((qj l0 Aa).f2) == 0)=false:=beq_eq_false_iff_ne.mpr Az;have c47b1 : (((qj l0 Aa).f2) != 0)=true:=bne_iff_ne.mpr Az;obtain rfl:=Option.some.inj H;have p178 : 0≤(Aa : Int):=of_decide_eq_true (by first|(with_reducible assumption)|assumption);have q178 : Aa<(l0.length : Int):=of_decide_eq_true (by first|(with_reducible assumption)|assumption);obtain⟨ad178,e178,Ad,Ae,Af⟩:=vY HR0.out Aa p178 q178
           cases e178
           replace Ad:=(HB.out.cell (World.block_lt_of_cell? w _ Ad)).trans Ad;replace Ae:=(HB.out.cell (World.block_lt_of_cell? w _ Ae)).trans Ae;replace Af:=(HB.out.cell (World.block_lt_of_cell? w _ Af)).trans Af;replace p178:=eq_true p178;replace q178:=eq_true q178;try go_wp2_with (first|((with_reducible refine vE (N:=4) rfl ?_);refine vD ?hg (N:=4) ?hd (cs:=#[.string (⟨#[]⟩ : ByteArray),.string (⟨#[]⟩ : ByteArray),.int .i64 0]) (t:=50) ?hr ?_;(case hd=>rfl);(case hg=>rfl);(case hr=>first|(go_simp;done)|(go_simp;rfl));intro Ac hg w54 hbox hb;have Ak:=qb.mk (qB (by repeat(first|(with_reducible first|exact HB.out|apply qd|apply qa|apply qc)|exact HB.out)) hb);have Am:=qb.mk (hbox);have Ap:=qb.mk ((by rw [hg];exact(qG (by repeat(first|(with_reducible first|exact HB.out|apply qd|apply qa|apply qc)|exact HB.out))) : w.heap.size≤Ac));have Aq:=qb.mk ((by rw [hg];exact(qG (by repeat(first|(with_reducible first|exact HB.out|apply qd|apply qa|apply qc)|exact HB.out))) : w.heap.size≤Ac));clear HB;have HB:=Ak;have Ab:=Am;have Ar:=Ap;have Ag:=Aq;clear Ak Am Ap Aq;clear hb hbox hg;have hcz55_0 : w54.cell? ⟨Ac,0,none⟩=some (.string (⟨#[]⟩ : ByteArray)):=(qe Ab.out 0).trans rfl;have hcz55_1 : w54.cell? ⟨Ac,1,none⟩=some (.string (⟨#[]⟩ : ByteArray)):=(qe Ab.out 1).trans rfl;have hcz55_2 : w54.cell? ⟨Ac,2,none⟩=some (.int .i64 0):=(qe Ab.out 2).trans rfl;have hfz55_0:=qg Ab.out 0;have hfz55_1:=qg Ab.out 1;have hfz55_2:=qg Ab.out 2))
           have Ak : qb ((((w54.setCell ⟨Ac,0,none⟩ (.string ((qj l0 Aa).f0))).setCell ⟨Ac,1,none⟩ (.string ((qj l0 Aa).f1))).setCell ⟨Ac,2,none⟩ (.int .i64 ((qj l0 Aa).f2))).heap[Ac]? = some (.cells #[.string ((qj l0 Aa).f0),.string ((qj l0 Aa).f1),.int .i64 ((qj l0 Aa).f2)] 50 (0,0))):=⟨by(with_reducible repeat(first|refine qp ?_ _|refine qu ?_|refine qo ?_ _));refine vC (cs:=#[.string ((qj l0 Aa).f0),.string ((qj l0 Aa).f1),.int .i64 0]) ?_ 2 _ rfl;(with_reducible repeat(first|refine qp ?_ _|refine qu ?_|refine qo ?_ _));refine vC (cs:=#[.string ((qj l0 Aa).f0),.string (⟨#[]⟩ : ByteArray),.int .i64 0]) ?_ 1 _ rfl;(with_reducible repeat(first|refine qp ?_ _|refine qu ?_|refine qo ?_ _));refine vC (cs:=#[.string (⟨#[]⟩ : ByteArray),.string (⟨#[]⟩ : ByteArray),.int .i64 0]) ?_ 0 _ rfl;(with_reducible repeat(first|refine qp ?_ _|refine qu ?_|refine qo ?_ _));exact Ab.out⟩;have Am : qb (Below w.heap.size w (((w54.setCell ⟨Ac,0,none⟩ (.string ((qj l0 Aa).f0))).setCell ⟨Ac,1,none⟩ (.string ((qj l0 Aa).f1))).setCell ⟨Ac,2,none⟩ (.int .i64 ((qj l0 Aa).f2)))):=⟨by repeat(first|(with_reducible first|exact HB.out|apply qd|apply qa|apply qc|refine qh ?_ Ag.out)|exact HB.out)⟩
           (try clear Ab)
           (try clear HB)
           generalize (((w54.setCell ⟨Ac,0,none⟩ (.string ((qj l0 Aa).f0))).setCell ⟨Ac,1,none⟩ (.string ((qj l0 Aa).f1))).setCell ⟨Ac,2,none⟩ (.int .i64 ((qj l0 Aa).f2)))=w56 at Ak Am ⊢
           have Ab:=Ak;have HB:=Am;clear Ak Am;have Ak:=qb.mk (qu Ab.out);have Am:=qb.mk (qc HB.out);clear Ab;clear HB;have Ab:=Ak;have HB:=Am;clear Ak Am;refine zS (n:=30) (S:=fun w'=>w'.cell? ⟨Ac,0,none⟩=some (.string ((qj l0 Aa).f0))∧w'.cell? ⟨Ac,1,none⟩=some (.string ((qj l0 Aa).f1))∧w'.cell? ⟨Ac,2,none⟩=some (.int .i64 ((qj l0 Aa).f2))) (ds:=[]) #[false,false,false,false,false,false,false,false,false,false,false,false,false,false,false,false,false,false,false,false,false,false,false,false,false,false,false,false,false,false] (by kernel_rfl) rfl rfl ⟨(qe Ab.out 0).trans rfl,(qe Ab.out 1).trans rfl,(qe Ab.out 2).trans rfl⟩ (fun hHeld=>?_);refine zu qM.tab6 qM.bits6 (fun HT_ HW_=>?_)
           generalize w56.drew=w57 at Ab HB hHeld ⊢
           refine qw (i:=0) (N:=some 15) (v:=?_) (a':=?_) #[true,false,false,false,false,false,false,false,false,false,false,false,false,false,false,false,false,false,false,false,false,false,false,false,false,false,false,false,false,false] rfl rfl (qn HT_.out (by kernel_rfl)) (fun _ _ _ h=>h) (Or.inl ⟨by rfl,?_⟩) ?_ ?_;rotate_left
           ·intro w'
            go_simp
            with_reducible rfl
           rotate_left
           ·simp only [Act.put,qSa,qSb,qSc,qm,qq]
            rfl
           refine qw (i:=1) (N:=some 16) (v:=?_) (a':=?_) #[true,true,false,false,false,false,false,false,false,false,false,false,false,false,false,false,false,false,false,false,false,false,false,false,false,false,false,false,false,false] rfl rfl (qn HT_.out (by kernel_rfl)) (fun _ _ _ h=>h) (Or.inl ⟨by rfl,?_⟩) ?_ ?_;rotate_left
           ·intro w'
            go_simp
            with_reducible rfl
           rotate_left
           ·simp only [Act.put,qSa,qSb,qSc,qm,qq]
            rfl
           refine qw (i:=2) (N:=some 17) (v:=?_) (a':=?_) #[true,true,true,false,false,false,false,false,false,false,false,false,false,false,false,false,false,false,false,false,false,false,false,false,false,false,false,false,false,false] rfl rfl (qn HT_.out (by kernel_rfl)) (fun _ _ _ h=>h) (Or.inl ⟨by rfl,?_⟩) ?_ ?_;rotate_left
           ·intro w'
            go_simp
            with_reducible rfl
           rotate_left
           ·simp only [Act.put,qSa,qSb,qSc,qm,qq]
            rfl
           refine qw (i:=3) (N:=some 18) (v:=undef) (a':=?_) #[true,true,true,true,false,false,false,false,false,false,false,false,false,false,false,false,false,false,false,false,false,false,false,false,false,false,false,false,false,false] rfl rfl (qn HT_.out (by kernel_rfl)) (fun _ _ _ h=>h) (Or.inr ⟨by rfl,rfl⟩) ?_ ?_;rotate_left
           ·simp only [Act.put,qSa,qSb,qSc,qm,qq]
            rfl
           refine qw (i:=4) (N:=some 19) (v:=undef) (a':=?_) #[true,true,true,true,true,false,false,false,false,false,false,false,false,false,false,false,false,false,false,false,false,false,false,false,false,false,false,false,false,false] rfl rfl (qn HT_.out (by kernel_rfl)) (fun _ _ _ h=>h) (Or.inr ⟨by rfl,rfl⟩) ?_ ?_;rotate_left
           ·simp only [Act.put,qSa,qSb,qSc,qm,qq]
            rfl
           refine qw (i:=5) (N:=some 20) (v:=undef) (a':=?_) #[true,true,true,true,true,true,false,false,false,false,false,false,false,false,false,false,false,false,false,false,false,false,false,false,false,false,false,false,false,false] rfl rfl (qn HT_.out (by kernel_rfl)) (fun _ _ _ h=>h) (Or.inr ⟨by rfl,rfl⟩) ?_ ?_;rotate_left
           ·simp only [Act.put,qSa,qSb,qSc,qm,qq]
            rfl
           refine qw (i:=6) (N:=some 21) (v:=undef) (a':=?_) #[true,true,true,true,true,true,true,false,false,false,false,false,false,false,false,false,false,false,false,false,false,false,false,false,false,false,false,false,false,false] rfl rfl (qn HT_.out (by kernel_rfl)) (fun _ _ _ h=>h) (Or.inr ⟨by rfl,rfl⟩) ?_ ?_;rotate_left
           ·simp only [Act.put,qSa,qSb,qSc,qm,qq]
            rfl
           refine qw (i:=7) (N:=some 22) (v:=undef) (a':=?_) #[true,true,true,true,true,true,true,true,false,false,false,false,false,false,false,false,false,false,false,false,false,false,false,false,false,false,false,false,false,false] rfl rfl (qn HT_.out (by kernel_rfl)) (fun _ _ _ h=>h) (Or.inr ⟨by rfl,rfl⟩) ?_ ?_;rotate_left
           ·simp only [Act.put,qSa,qSb,qSc,qm,qq]
            rfl
           refine qw (i:=8) (N:=some 23) (v:=undef) (a':=?_) #[true,true,true,true,true,true,true,true,true,false,false,false,false,false,false,false,false,false,false,false,false,false,false,false,false,false,false,false,false,false] rfl rfl (qn HT_.out (by kernel_rfl)) (fun _ _ _ h=>h) (Or.inr ⟨by rfl,rfl⟩) ?_ ?_;rotate_left
           ·simp only [Act.put,qSa,qSb,qSc,qm,qq]
            rfl
           refine qw (i:=9) (N:=some 24) (v:=undef) (a':=?_) #[true,true,true,true,true,true,true,true,true,true,false,false,false,false,false,false,false,false,false,false,false,false,false,false,false,false,false,false,false,false] rfl rfl (qn HT_.out (by kernel_rfl)) (fun _ _ _ h=>h) (Or.inr ⟨by rfl,rfl⟩) ?_ ?_;rotate_left
           ·simp only [Act.put,qSa,qSb,qSc,qm,qq]
            rfl
           refine qw (i:=10) (N:=some 25) (v:=undef) (a':=?_) #[true,true,true,true,true,true,true,true,true,true,true,false,false,false,false,false,false,false,false,false,false,false,false,false,false,false,false,false,false,false] rfl rfl (qn HT_.out (by kernel_rfl)) (fun _ _ _ h=>h) (Or.inr ⟨by rfl,rfl⟩) ?_ ?_;rotate_left
           ·simp only [Act.put,qSa,qSb,qSc,qm,qq]
            rfl
           refine qw (i:=11) (N:=some 26) (v:=undef) (a':=?_) #[true,true,true,true,true,true,true,true,true,true,true,true,false,false,false,false,false,false,false,false,false,false,false,false,false,false,false,false,false,false] rfl rfl (qn HT_.out (by kernel_rfl)) (fun _ _ _ h=>h) (Or.inr ⟨by rfl,rfl⟩) ?_ ?_;rotate_left
           ·simp only [Act.put,qSa,qSb,qSc,qm,qq]
            rfl
           refine qw (i:=12) (N:=some 27) (v:=?_) (a':=?_) #[true,true,true,true,true,true,true,true,true,true,true,true,true,false,false,false,false,false,false,false,false,false,false,false,false,false,false,false,false,false] rfl rfl (qn HT_.out (by kernel_rfl)) (fun _ _ _ h=>h) (Or.inl ⟨by rfl,?_⟩) ?_ ?_;rotate_left
           ·intro w'
            go_simp
            with_reducible rfl
           rotate_left
           ·simp only [Act.put,qSa,qSb,qSc,qm,qq]
            rfl
           refine qw (i:=13) (N:=some 28) (v:=?_) (a':=?_) #[true,true,true,true,true,true,true,true,true,true,true,true,true,true,false,false,false,false,false,false,false,false,false,false,false,false,false,false,false,false] rfl rfl (qn HT_.out (by kernel_rfl)) (fun _ _ _ h=>h) (Or.inl ⟨by rfl,?_⟩) ?_ ?_;rotate_left
           ·intro w'
            go_simp
            with_reducible rfl
           rotate_left
           ·simp only [Act.put,qSa,qSb,qSc,qm,qq]
            rfl
           refine qw (i:=14) (N:=some 29) (v:=?_) (a':=?_) #[true,true,true,true,true,true,true,true,true,true,true,true,true,true,true,false,false,false,false,false,false,false,false,false,false,false,false,false,false,false] rfl rfl (qn HT_.out (by kernel_rfl)) (fun _ _ _ h=>h) (Or.inl ⟨by rfl,?_⟩) ?_ ?_;rotate_left
           ·intro w'
            go_simp
            with_reducible rfl
           rotate_left
           ·simp only [Act.put,qSa,qSb,qSc,qm,qq]
            rfl
           refine vZ (i:=15) (N:=some 30) (v:=?_) (a':=?_) #[true,true,true,true,true,true,true,true,true,true,true,true,true,true,true,true,false,false,false,false,false,false,false,false,false,false,false,false,false,false] rfl rfl (vu HT_.out HW_.out (by kernel_rfl)) (fun _ _ _ h=>h) (Or.inl ⟨by rfl,?_⟩) hHeld ?_ ?_;rotate_left
           ·rintro w' ⟨s0,s1,s2⟩
            go_simp
            with_reducible rfl
           rotate_left
           ·simp only [Act.put,qSa,qSb,qSc,qm,qq]
            rfl
           refine zP (i:=16) (N:=some 31) #[true,true,true,true,true,true,true,true,true,true,true,true,true,true,true,true,true,false,false,false,false,false,false,false,false,false,false,false,false,false] rfl rfl (zm HT_.out (by kernel_rfl)) (by decide) (fun K hK=>?_);refine zy Tryd.func21 (by kernel_rfl) rfl #[.string ((qj l0 Aa).f0)] (by rfl) rfl rfl (by(try simp only [List.map_toArray,List.map_cons,List.map_nil]);first|done|rfl|(simp only [List.length_drop,List.length_take];rfl)) ?_
           with_reducible refine(zi.calls k1 ((qj l0 Aa).f0) true _ A43.out (HT.out.go (by repeat(first|(with_reducible first|exact HB.out|apply qd|apply qa|apply qc|refine qh ?_ Ag.out)|exact HB.out)))).mono ?_
           rintro e w58 ⟨rfl,hb⟩;refine⟨_,rfl,?_⟩;have Ak:=qb.mk (qJ (g:=Ac) (o:=.cells #[.string ((qj l0 Aa).f0),.string ((qj l0 Aa).f1),.int .i64 ((qj l0 Aa).f2)] 50 (0,0)) (by(with_reducible repeat(first|refine qp ?_ _|refine qu ?_|refine qo ?_ _));exact Ab.out) hb);have Am:=qb.mk (qB (by repeat(first|(with_reducible first|exact HB.out|apply qd|apply qa|apply qc|refine qh ?_ Ag.out)|exact HB.out)) hb);clear Ab;clear HB;have Ab:=Ak;have HB:=Am;clear Ak Am
           (try clear hb)
           (try clear hb2)
           (try clear hk)
           (try clear hi)
           refine hK.out _ _ ⟨(qe Ab.out 0).trans rfl,(qe Ab.out 1).trans rfl,(qe Ab.out 2).trans rfl⟩ (fun hHeld=>?_);clear hK K;refine zz (a':=?_) ?_ ?_;rotate_left
           ·show Act.put _ (some 31) _=_
            simp only [Act.put,qSa,qSb,qSc,qm,qq]
            rfl
           refine qw (i:=17) (N:=some 32) (v:=?_) (a':=?_) #[true,true,true,true,true,true,true,true,true,true,true,true,true,true,true,true,true,true,false,false,false,false,false,false,false,false,false,false,false,false] rfl rfl (qn HT_.out (by kernel_rfl)) (fun _ _ _ h=>h) (Or.inl ⟨by rfl,?_⟩) ?_ ?_;rotate_left
           ·intro w'
            go_simp
            with_reducible rfl
           rotate_left
           ·simp only [Act.put,qSa,qSb,qSc,qm,qq]
            rfl
           refine qw (i:=18) (N:=some 33) (v:=?_) (a':=?_) #[true,true,true,true,true,true,true,true,true,true,true,true,true,true,true,true,true,true,true,false,false,false,false,false,false,false,false,false,false,false] rfl rfl (qn HT_.out (by kernel_rfl)) (fun _ _ _ h=>h) (Or.inl ⟨by rfl,?_⟩) ?_ ?_;rotate_left
           ·intro w'
            go_simp
            with_reducible rfl
           rotate_left
           ·simp only [Act.put,qSa,qSb,qSc,qm,qq]
            rfl
           refine qw (i:=19) (N:=some 34) (v:=?_) (a':=?_) #[true,true,true,true,true,true,true,true,true,true,true,true,true,true,true,true,true,true,true,true,false,false,false,false,false,false,false,false,false,false] rfl rfl (qn HT_.out (by kernel_rfl)) (fun _ _ _ h=>h) (Or.inl ⟨by rfl,?_⟩) ?_ ?_;rotate_left
           ·intro w'
            go_simp
            with_reducible rfl
           rotate_left
           ·simp only [Act.put,qSa,qSb,qSc,qm,qq]
            rfl
           refine qw (i:=20) (N:=some 35) (v:=?_) (a':=?_) #[true,true,true,true,true,true,true,true,true,true,true,true,true,true,true,true,true,true,true,true,true,false,false,false,false,false,false,false,false,false] rfl rfl (qn HT_.out (by kernel_rfl)) (fun _ _ _ h=>h) (Or.inl ⟨by rfl,?_⟩) ?_ ?_;rotate_left
           ·intro w'
            go_simp
            with_reducible rfl
           rotate_left
           ·simp only [Act.put,qSa,qSb,qSc,qm,qq]
            rfl
           refine vZ (i:=21) (N:=some 36) (v:=?_) (a':=?_) #[true,true,true,true,true,true,true,true,true,true,true,true,true,true,true,true,true,true,true,true,true,true,false,false,false,false,false,false,false,false] rfl rfl (vu HT_.out HW_.out (by kernel_rfl)) (fun _ _ _ h=>h) (Or.inl ⟨by rfl,?_⟩) hHeld ?_ ?_;rotate_left
           ·rintro w' ⟨s0,s1,s2⟩
            go_simp
            with_reducible rfl
           rotate_left
           ·simp only [Act.put,qSa,qSb,qSc,qm,qq]
            rfl
           refine zP (i:=22) (N:=some 37) #[true,true,true,true,true,true,true,true,true,true,true,true,true,true,true,true,true,true,true,true,true,true,true,false,false,false,false,false,false,false] rfl rfl (zm HT_.out (by kernel_rfl)) (by decide) (fun K hK=>?_);refine zy Tryd.func23 (by kernel_rfl) rfl #[.string ((qj l0 Aa).f1)] (by rfl) rfl rfl (by(try simp only [List.map_toArray,List.map_cons,List.map_nil]);first|done|rfl|(simp only [List.length_drop,List.length_take];rfl)) ?_
           with_reducible refine(vX.calls k1 ((qj l0 Aa).f1) true _ A45.out (HT.out.go (by repeat(first|(with_reducible first|exact HB.out|apply qd|apply qa|apply qc|refine qh ?_ Ag.out)|exact HB.out)))).mono ?_
           rintro e w59 ⟨rfl,hb⟩;refine⟨_,rfl,?_⟩;have Ak:=qb.mk (qJ (g:=Ac) (o:=.cells #[.string ((qj l0 Aa).f0),.string ((qj l0 Aa).f1),.int .i64 ((qj l0 Aa).f2)] 50 (0,0)) (by(with_reducible repeat(first|refine qp ?_ _|refine qu ?_|refine qo ?_ _));exact Ab.out) hb);have Am:=qb.mk (qB (by repeat(first|(with_reducible first|exact HB.out|apply qd|apply qa|apply qc|refine qh ?_ Ag.out)|exact HB.out)) hb);clear Ab;clear HB;have Ab:=Ak;have HB:=Am;clear Ak Am
           (try clear hb)
           (try clear hb2)
           (try clear hk)
           (try clear hi)
           refine hK.out _ _ ⟨(qe Ab.out 0).trans rfl,(qe Ab.out 1).trans rfl,(qe Ab.out 2).trans rfl⟩ (fun hHeld=>?_);clear hK K;refine zz (a':=?_) ?_ ?_;rotate_left
           ·show Act.put _ (some 37) _=_
            simp only [Act.put,qSa,qSb,qSc,qm,qq]
            rfl
           refine qw (i:=23) (N:=some 38) (v:=?_) (a':=?_) #[true,true,true,true,true,true,true,true,true,true,true,true,true,true,true,true,true,true,true,true,true,true,true,true,false,false,false,false,false,false] rfl rfl (qn HT_.out (by kernel_rfl)) (fun _ _ _ h=>h) (Or.inl ⟨by rfl,?_⟩) ?_ ?_;rotate_left
           ·intro w'
            go_simp
            with_reducible rfl
           rotate_left
           ·simp only [Act.put,qSa,qSb,qSc,qm,qq]
            rfl
           refine qw (i:=24) (N:=some 39) (v:=?_) (a':=?_) #[true,true,true,true,true,true,true,true,true,true,true,true,true,true,true,true,true,true,true,true,true,true,true,true,true,false,false,false,false,false] rfl rfl (qn HT_.out (by kernel_rfl)) (fun _ _ _ h=>h) (Or.inl ⟨by rfl,?_⟩) ?_ ?_;rotate_left
           ·intro w'
            go_simp
            with_reducible rfl
           rotate_left
           ·simp only [Act.put,qSa,qSb,qSc,qm,qq]
            rfl
           refine qw (i:=25) (N:=some 40) (v:=?_) (a':=?_) #[true,true,true,true,true,true,true,true,true,true,true,true,true,true,true,true,true,true,true,true,true,true,true,true,true,true,false,false,false,false] rfl rfl (qn HT_.out (by kernel_rfl)) (fun _ _ _ h=>h) (Or.inl ⟨by rfl,?_⟩) ?_ ?_;rotate_left
           ·intro w'
            go_simp
            with_reducible rfl
           rotate_left
           ·simp only [Act.put,qSa,qSb,qSc,qm,qq]
            rfl
           refine qw (i:=26) (N:=some 41) (v:=?_) (a':=?_) #[true,true,true,true,true,true,true,true,true,true,true,true,true,true,true,true,true,true,true,true,true,true,true,true,true,true,true,false,false,false] rfl rfl (qn HT_.out (by kernel_rfl)) (fun _ _ _ h=>h) (Or.inl ⟨by rfl,?_⟩) ?_ ?_;rotate_left
           ·intro w'
            go_simp
            with_reducible rfl
           rotate_left
           ·simp only [Act.put,qSa,qSb,qSc,qm,qq]
            rfl
           refine vZ (i:=27) (N:=some 42) (v:=?_) (a':=?_) #[true,true,true,true,true,true,true,true,true,true,true,true,true,true,true,true,true,true,true,true,true,true,true,true,true,true,true,true,false,false] rfl rfl (vu HT_.out HW_.out (by kernel_rfl)) (fun _ _ _ h=>h) (Or.inl ⟨by rfl,?_⟩) hHeld ?_ ?_;rotate_left
           ·rintro w' ⟨s0,s1,s2⟩
            go_simp
            with_reducible rfl
           rotate_left
           ·simp only [Act.put,qSa,qSb,qSc,qm,qq]
            rfl
           refine qw (i:=28) (N:=some 43) (v:=?_) (a':=?_) #[true,true,true,true,true,true,true,true,true,true,true,true,true,true,true,true,true,true,true,true,true,true,true,true,true,true,true,true,true,false] rfl rfl (qn HT_.out (by kernel_rfl)) (fun _ _ _ h=>h) (Or.inl ⟨by rfl,?_⟩) ?_ ?_;rotate_left
           ·intro w'
            go_simp
            with_reducible rfl
           rotate_left
           ·simp only [Act.put,qSa,qSb,qSc,qm,qq]
            rfl
           refine qw (i:=29) (N:=some 44) (v:=?_) (a':=?_) #[true,true,true,true,true,true,true,true,true,true,true,true,true,true,true,true,true,true,true,true,true,true,true,true,true,true,true,true,true,true] rfl rfl (qn HT_.out (by kernel_rfl)) (fun _ _ _ h=>h) (Or.inl ⟨by rfl,?_⟩) ?_ ?_;rotate_left
           ·intro w'
            go_simp
            with_reducible rfl
           rotate_left
           ·simp only [Act.put,qSa,qSb,qSc,qm,qq]
            rfl
           refine jn (zK HT_.out (by kernel_rfl)) ?_;try go_wp2
           go_ret
           exact⟨by first|rfl|(simp [qK,qL] <;> rfl)|(simp [*,qK,qL] <;> rfl),by repeat(first|(with_reducible first|exact HB.out|apply qd|apply qa|apply qc|refine qh ?_ Ag.out)|exact HB.out)⟩
         ·replace c46:=Bool.eq_false_iff.mpr c46
          subst c46;have H1 : (some 3)=some r:=by rw [if_neg (show ¬ (false=true) by decide)] at H;exact H
          clear H;have H:=H1;clear H1;obtain rfl:=Option.some.inj H;have p178 : 0≤(Aa : Int):=of_decide_eq_true (by first|(with_reducible assumption)|assumption);have q178 : Aa<(l0.length : Int):=of_decide_eq_true (by first|(with_reducible assumption)|assumption);obtain⟨ad178,e178,Ad,Ae,Af⟩:=vY HR0.out Aa p178 q178
          cases e178
          replace Ad:=(HB.out.cell (World.block_lt_of_cell? w _ Ad)).trans Ad;replace Ae:=(HB.out.cell (World.block_lt_of_cell? w _ Ae)).trans Ae;replace Af:=(HB.out.cell (World.block_lt_of_cell? w _ Af)).trans Af;replace p178:=eq_true p178;replace q178:=eq_true q178;try go_wp2_with (first|((with_reducible refine vE (N:=4) rfl ?_);refine vD ?hg (N:=4) ?hd (cs:=#[.string (⟨#[]⟩ : ByteArray),.string (⟨#[]⟩ : ByteArray),.int .i64 0]) (t:=50) ?hr ?_;(case hd=>rfl);(case hg=>rfl);(case hr=>first|(go_simp;done)|(go_simp;rfl));intro Ac hg w60 hbox hb;have Ak:=qb.mk (qB (by repeat(first|(with_reducible first|exact HB.out|apply qd|apply qa|apply qc)|exact HB.out)) hb);have Am:=qb.mk (hbox);have Ap:=qb.mk ((by rw [hg];exact(qG (by repeat(first|(with_reducible first|exact HB.out|apply qd|apply qa|apply qc)|exact HB.out))) : w.heap.size≤Ac));have Aq:=qb.mk ((by rw [hg];exact(qG (by repeat(first|(with_reducible first|exact HB.out|apply qd|apply qa|apply qc)|exact HB.out))) : w.heap.size≤Ac));clear HB;have HB:=Ak;have Ab:=Am;have Ar:=Ap;have Ag:=Aq;clear Ak Am Ap Aq;clear hb hbox hg;have hcz61_0 : w60.cell? ⟨Ac,0,none⟩=some (.string (⟨#[]⟩ : ByteArray)):=(qe Ab.out 0).trans rfl;have hcz61_1 : w60.cell? ⟨Ac,1,none⟩=some (.string (⟨#[]⟩ : ByteArray)):=(qe Ab.out 1).trans rfl;have hcz61_2 : w60.cell? ⟨Ac,2,none⟩=some (.int .i64 0):=(qe Ab.out 2).trans rfl;have hfz61_0:=qg Ab.out 0;have hfz61_1:=qg Ab.out 1;have hfz61_2:=qg Ab.out 2))
          have Ak : qb ((((w60.setCell ⟨Ac,0,none⟩ (.string ((qj l0 Aa).f0))).setCell ⟨Ac,1,none⟩ (.string ((qj l0 Aa).f1))).setCell ⟨Ac,2,none⟩ (.int .i64 ((qj l0 Aa).f2))).heap[Ac]? = some (.cells #[.string ((qj l0 Aa).f0),.string ((qj l0 Aa).f1),.int .i64 ((qj l0 Aa).f2)] 50 (0,0))):=⟨by(with_reducible repeat(first|refine qp ?_ _|refine qu ?_|refine qo ?_ _));refine vC (cs:=#[.string ((qj l0 Aa).f0),.string ((qj l0 Aa).f1),.int .i64 0]) ?_ 2 _ rfl;(with_reducible repeat(first|refine qp ?_ _|refine qu ?_|refine qo ?_ _));refine vC (cs:=#[.string ((qj l0 Aa).f0),.string (⟨#[]⟩ : ByteArray),.int .i64 0]) ?_ 1 _ rfl;(with_reducible repeat(first|refine qp ?_ _|refine qu ?_|refine qo ?_ _));refine vC (cs:=#[.string (⟨#[]⟩ : ByteArray),.string (⟨#[]⟩ : ByteArray),.int .i64 0]) ?_ 0 _ rfl;(with_reducible repeat(first|refine qp ?_ _|refine qu ?_|refine qo ?_ _));exact Ab.out⟩;have Am : qb (Below w.heap.size w (((w60.setCell ⟨Ac,0,none⟩ (.string ((qj l0 Aa).f0))).setCell ⟨Ac,1,none⟩ (.string ((qj l0 Aa).f1))).setCell ⟨Ac,2,none⟩ (.int .i64 ((qj l0 Aa).f2)))):=⟨by repeat(first|(with_reducible first|exact HB.out|apply qd|apply qa|apply qc|refine qh ?_ Ag.out)|exact HB.out)⟩
          (try clear Ab)
          (try clear HB)
          generalize (((w60.setCell ⟨Ac,0,none⟩ (.string ((qj l0 Aa).f0))).setCell ⟨Ac,1,none⟩ (.string ((qj l0 Aa).f1))).setCell ⟨Ac,2,none⟩ (.int .i64 ((qj l0 Aa).f2)))=w62 at Ak Am ⊢
          have Ab:=Ak;have HB:=Am;clear Ak Am;have Ak:=qb.mk (qu Ab.out);have Am:=qb.mk (qc HB.out);clear Ab;clear HB;have Ab:=Ak;have HB:=Am;clear Ak Am;refine zS (n:=30) (S:=fun w'=>w'.cell? ⟨Ac,0,none⟩=some (.string ((qj l0 Aa).f0))∧w'.cell? ⟨Ac,1,none⟩=some (.string ((qj l0 Aa).f1))∧w'.cell? ⟨Ac,2,none⟩=some (.int .i64 ((qj l0 Aa).f2))) (ds:=[]) #[false,false,false,false,false,false,false,false,false,false,false,false,false,false,false,false,false,false,false,false,false,false,false,false,false,false,false,false,false,false] (by kernel_rfl) rfl rfl ⟨(qe Ab.out 0).trans rfl,(qe Ab.out 1).trans rfl,(qe Ab.out 2).trans rfl⟩ (fun hHeld=>?_);refine zu qM.tab6 qM.bits6 (fun HT_ HW_=>?_)
          generalize w62.drew=w63 at Ab HB hHeld ⊢
          refine qw (i:=0) (N:=some 15) (v:=?_) (a':=?_) #[true,false,false,false,false,false,false,false,false,false,false,false,false,false,false,false,false,false,false,false,false,false,false,false,false,false,false,false,false,false] rfl rfl (qn HT_.out (by kernel_rfl)) (fun _ _ _ h=>h) (Or.inl ⟨by rfl,?_⟩) ?_ ?_;rotate_left
          ·intro w'
           go_simp
           with_reducible rfl
          rotate_left
          ·simp only [Act.put,qSa,qSb,qSc,qm,qq]
           rfl
          refine qw (i:=1) (N:=some 16) (v:=?_) (a':=?_) #[true,true,false,false,false,false,false,false,false,false,false,false,false,false,false,false,false,false,false,false,false,false,false,false,false,false,false,false,false,false] rfl rfl (qn HT_.out (by kernel_rfl)) (fun _ _ _ h=>h) (Or.inl ⟨by rfl,?_⟩) ?_ ?_;rotate_left
          ·intro w'
           go_simp
           with_reducible rfl
          rotate_left
          ·simp only [Act.put,qSa,qSb,qSc,qm,qq]
           rfl
          refine qw (i:=2) (N:=some 17) (v:=?_) (a':=?_) #[true,true,true,false,false,false,false,false,false,false,false,false,false,false,false,false,false,false,false,false,false,false,false,false,false,false,false,false,false,false] rfl rfl (qn HT_.out (by kernel_rfl)) (fun _ _ _ h=>h) (Or.inl ⟨by rfl,?_⟩) ?_ ?_;rotate_left
          ·intro w'
           go_simp
           with_reducible rfl
          rotate_left
          ·simp only [Act.put,qSa,qSb,qSc,qm,qq]
           rfl
          refine qw (i:=3) (N:=some 18) (v:=undef) (a':=?_) #[true,true,true,true,false,false,false,false,false,false,false,false,false,false,false,false,false,false,false,false,false,false,false,false,false,false,false,false,false,false] rfl rfl (qn HT_.out (by kernel_rfl)) (fun _ _ _ h=>h) (Or.inr ⟨by rfl,rfl⟩) ?_ ?_;rotate_left
          ·simp only [Act.put,qSa,qSb,qSc,qm,qq]
           rfl
          refine qw (i:=4) (N:=some 19) (v:=undef) (a':=?_) #[true,true,true,true,true,false,false,false,false,false,false,false,false,false,false,false,false,false,false,false,false,false,false,false,false,false,false,false,false,false] rfl rfl (qn HT_.out (by kernel_rfl)) (fun _ _ _ h=>h) (Or.inr ⟨by rfl,rfl⟩) ?_ ?_;rotate_left
          ·simp only [Act.put,qSa,qSb,qSc,qm,qq]
           rfl
          refine qw (i:=5) (N:=some 20) (v:=undef) (a':=?_) #[true,true,true,true,true,true,false,false,false,false,false,false,false,false,false,false,false,false,false,false,false,false,false,false,false,false,false,false,false,false] rfl rfl (qn HT_.out (by kernel_rfl)) (fun _ _ _ h=>h) (Or.inr ⟨by rfl,rfl⟩) ?_ ?_;rotate_left
          ·simp only [Act.put,qSa,qSb,qSc,qm,qq]
           rfl
          refine qw (i:=6) (N:=some 21) (v:=undef) (a':=?_) #[true,true,true,true,true,true,true,false,false,false,false,false,false,false,false,false,false,false,false,false,false,false,false,false,false,false,false,false,false,false] rfl rfl (qn HT_.out (by kernel_rfl)) (fun _ _ _ h=>h) (Or.inr ⟨by rfl,rfl⟩) ?_ ?_;rotate_left
          ·simp only [Act.put,qSa,qSb,qSc,qm,qq]
           rfl
          refine qw (i:=7) (N:=some 22) (v:=undef) (a':=?_) #[true,true,true,true,true,true,true,true,false,false,false,false,false,false,false,false,false,false,false,false,false,false,false,false,false,false,false,false,false,false] rfl rfl (qn HT_.out (by kernel_rfl)) (fun _ _ _ h=>h) (Or.inr ⟨by rfl,rfl⟩) ?_ ?_;rotate_left
          ·simp only [Act.put,qSa,qSb,qSc,qm,qq]
           rfl
          refine qw (i:=8) (N:=some 23) (v:=undef) (a':=?_) #[true,true,true,true,true,true,true,true,true,false,false,false,false,false,false,false,false,false,false,false,false,false,false,false,false,false,false,false,false,false] rfl rfl (qn HT_.out (by kernel_rfl)) (fun _ _ _ h=>h) (Or.inr ⟨by rfl,rfl⟩) ?_ ?_;rotate_left
          ·simp only [Act.put,qSa,qSb,qSc,qm,qq]
           rfl
          refine qw (i:=9) (N:=some 24) (v:=undef) (a':=?_) #[true,true,true,true,true,true,true,true,true,true,false,false,false,false,false,false,false,false,false,false,false,false,false,false,false,false,false,false,false,false] rfl rfl (qn HT_.out (by kernel_rfl)) (fun _ _ _ h=>h) (Or.inr ⟨by rfl,rfl⟩) ?_ ?_;rotate_left
          ·simp only [Act.put,qSa,qSb,qSc,qm,qq]
           rfl
          refine qw (i:=10) (N:=some 25) (v:=undef) (a':=?_) #[true,true,true,true,true,true,true,true,true,true,true,false,false,false,false,false,false,false,false,false,false,false,false,false,false,false,false,false,false,false] rfl rfl (qn HT_.out (by kernel_rfl)) (fun _ _ _ h=>h) (Or.inr ⟨by rfl,rfl⟩) ?_ ?_;rotate_left
          ·simp only [Act.put,qSa,qSb,qSc,qm,qq]
           rfl
          refine qw (i:=11) (N:=some 26) (v:=undef) (a':=?_) #[true,true,true,true,true,true,true,true,true,true,true,true,false,false,false,false,false,false,false,false,false,false,false,false,false,false,false,false,false,false] rfl rfl (qn HT_.out (by kernel_rfl)) (fun _ _ _ h=>h) (Or.inr ⟨by rfl,rfl⟩) ?_ ?_;rotate_left
          ·simp only [Act.put,qSa,qSb,qSc,qm,qq]
           rfl
          refine qw (i:=12) (N:=some 27) (v:=?_) (a':=?_) #[true,true,true,true,true,true,true,true,true,true,true,true,true,false,false,false,false,false,false,false,false,false,false,false,false,false,false,false,false,false] rfl rfl (qn HT_.out (by kernel_rfl)) (fun _ _ _ h=>h) (Or.inl ⟨by rfl,?_⟩) ?_ ?_;rotate_left
          ·intro w'
           go_simp
           with_reducible rfl
          rotate_left
          ·simp only [Act.put,qSa,qSb,qSc,qm,qq]
           rfl
          refine qw (i:=13) (N:=some 28) (v:=?_) (a':=?_) #[true,true,true,true,true,true,true,true,true,true,true,true,true,true,false,false,false,false,false,false,false,false,false,false,false,false,false,false,false,false] rfl rfl (qn HT_.out (by kernel_rfl)) (fun _ _ _ h=>h) (Or.inl ⟨by rfl,?_⟩) ?_ ?_;rotate_left
          ·intro w'
           go_simp
           with_reducible rfl
          rotate_left
          ·simp only [Act.put,qSa,qSb,qSc,qm,qq]
           rfl
          refine qw (i:=14) (N:=some 29) (v:=?_) (a':=?_) #[true,true,true,true,true,true,true,true,true,true,true,true,true,true,true,false,false,false,false,false,false,false,false,false,false,false,false,false,false,false] rfl rfl (qn HT_.out (by kernel_rfl)) (fun _ _ _ h=>h) (Or.inl ⟨by rfl,?_⟩) ?_ ?_;rotate_left
          ·intro w'
           go_simp
           with_reducible rfl
          rotate_left
          ·simp only [Act.put,qSa,qSb,qSc,qm,qq]
           rfl
          refine vZ (i:=15) (N:=some 30) (v:=?_) (a':=?_) #[true,true,true,true,true,true,true,true,true,true,true,true,true,true,true,true,false,false,false,false,false,false,false,false,false,false,false,false,false,false] rfl rfl (vu HT_.out HW_.out (by kernel_rfl)) (fun _ _ _ h=>h) (Or.inl ⟨by rfl,?_⟩) hHeld ?_ ?_;rotate_left
          ·rintro w' ⟨s0,s1,s2⟩
           go_simp
           with_reducible rfl
          rotate_left
          ·simp only [Act.put,qSa,qSb,qSc,qm,qq]
           rfl
          refine zP (i:=16) (N:=some 31) #[true,true,true,true,true,true,true,true,true,true,true,true,true,true,true,true,true,false,false,false,false,false,false,false,false,false,false,false,false,false] rfl rfl (zm HT_.out (by kernel_rfl)) (by decide) (fun K hK=>?_);refine zy Tryd.func21 (by kernel_rfl) rfl #[.string ((qj l0 Aa).f0)] (by rfl) rfl rfl (by(try simp only [List.map_toArray,List.map_cons,List.map_nil]);first|done|rfl|(simp only [List.length_drop,List.length_take];rfl)) ?_
          with_reducible refine(zi.calls k1 ((qj l0 Aa).f0) true _ A43.out (HT.out.go (by repeat(first|(with_reducible first|exact HB.out|apply qd|apply qa|apply qc|refine qh ?_ Ag.out)|exact HB.out)))).mono ?_
          rintro e w64 ⟨rfl,hb⟩;refine⟨_,rfl,?_⟩;have Ak:=qb.mk (qJ (g:=Ac) (o:=.cells #[.string ((qj l0 Aa).f0),.string ((qj l0 Aa).f1),.int .i64 ((qj l0 Aa).f2)] 50 (0,0)) (by(with_reducible repeat(first|refine qp ?_ _|refine qu ?_|refine qo ?_ _));exact Ab.out) hb);have Am:=qb.mk (qB (by repeat(first|(with_reducible first|exact HB.out|apply qd|apply qa|apply qc|refine qh ?_ Ag.out)|exact HB.out)) hb);clear Ab;clear HB;have Ab:=Ak;have HB:=Am;clear Ak Am
          (try clear hb)
          (try clear hb2)
          (try clear hk)
          (try clear hi)
          refine hK.out _ _ ⟨(qe Ab.out 0).trans rfl,(qe Ab.out 1).trans rfl,(qe Ab.out 2).trans rfl⟩ (fun hHeld=>?_);clear hK K;refine zz (a':=?_) ?_ ?_;rotate_left
          ·show Act.put _ (some 31) _=_
           simp only [Act.put,qSa,qSb,qSc,qm,qq]
           rfl
          refine qw (i:=17) (N:=some 32) (v:=?_) (a':=?_) #[true,true,true,true,true,true,true,true,true,true,true,true,true,true,true,true,true,true,false,false,false,false,false,false,false,false,false,false,false,false] rfl rfl (qn HT_.out (by kernel_rfl)) (fun _ _ _ h=>h) (Or.inl ⟨by rfl,?_⟩) ?_ ?_;rotate_left
          ·intro w'
           go_simp
           with_reducible rfl
          rotate_left
          ·simp only [Act.put,qSa,qSb,qSc,qm,qq]
           rfl
          refine qw (i:=18) (N:=some 33) (v:=?_) (a':=?_) #[true,true,true,true,true,true,true,true,true,true,true,true,true,true,true,true,true,true,true,false,false,false,false,false,false,false,false,false,false,false] rfl rfl (qn HT_.out (by kernel_rfl)) (fun _ _ _ h=>h) (Or.inl ⟨by rfl,?_⟩) ?_ ?_;rotate_left
          ·intro w'
           go_simp
           with_reducible rfl
          rotate_left
          ·simp only [Act.put,qSa,qSb,qSc,qm,qq]
           rfl
          refine qw (i:=19) (N:=some 34) (v:=?_) (a':=?_) #[true,true,true,true,true,true,true,true,true,true,true,true,true,true,true,true,true,true,true,true,false,false,false,false,false,false,false,false,false,false] rfl rfl (qn HT_.out (by kernel_rfl)) (fun _ _ _ h=>h) (Or.inl ⟨by rfl,?_⟩) ?_ ?_;rotate_left
          ·intro w'
           go_simp
           with_reducible rfl
          rotate_left
          ·simp only [Act.put,qSa,qSb,qSc,qm,qq]
           rfl
          refine qw (i:=20) (N:=some 35) (v:=?_) (a':=?_) #[true,true,true,true,true,true,true,true,true,true,true,true,true,true,true,true,true,true,true,true,true,false,false,false,false,false,false,false,false,false] rfl rfl (qn HT_.out (by kernel_rfl)) (fun _ _ _ h=>h) (Or.inl ⟨by rfl,?_⟩) ?_ ?_;rotate_left
          ·intro w'
           go_simp
           with_reducible rfl
          rotate_left
          ·simp only [Act.put,qSa,qSb,qSc,qm,qq]
           rfl
          refine vZ (i:=21) (N:=some 36) (v:=?_) (a':=?_) #[true,true,true,true,true,true,true,true,true,true,true,true,true,true,true,true,true,true,true,true,true,true,false,false,false,false,false,false,false,false] rfl rfl (vu HT_.out HW_.out (by kernel_rfl)) (fun _ _ _ h=>h) (Or.inl ⟨by rfl,?_⟩) hHeld ?_ ?_;rotate_left
          ·rintro w' ⟨s0,s1,s2⟩
           go_simp
           with_reducible rfl
          rotate_left
          ·simp only [Act.put,qSa,qSb,qSc,qm,qq]
           rfl
          refine zP (i:=22) (N:=some 37) #[true,true,true,true,true,true,true,true,true,true,true,true,true,true,true,true,true,true,true,true,true,true,true,false,false,false,false,false,false,false] rfl rfl (zm HT_.out (by kernel_rfl)) (by decide) (fun K hK=>?_);refine zy Tryd.func23 (by kernel_rfl) rfl #[.string ((qj l0 Aa).f1)] (by rfl) rfl rfl (by(try simp only [List.map_toArray,List.map_cons,List.map_nil]);first|done|rfl|(simp only [List.length_drop,List.length_take];rfl)) ?_
          with_reducible refine(vX.calls k1 ((qj l0 Aa).f1) false _ A45.out (HT.out.go (by repeat(first|(with_reducible first|exact HB.out|apply qd|apply qa|apply qc|refine qh ?_ Ag.out)|exact HB.out)))).mono ?_
          rintro e w65 ⟨rfl,hb⟩;refine⟨_,rfl,?_⟩;have Ak:=qb.mk (qJ (g:=Ac) (o:=.cells #[.string ((qj l0 Aa).f0),.string ((qj l0 Aa).f1),.int .i64 ((qj l0 Aa).f2)] 50 (0,0)) (by(with_reducible repeat(first|refine qp ?_ _|refine qu ?_|refine qo ?_ _));exact Ab.out) hb);have Am:=qb.mk (qB (by repeat(first|(with_reducible first|exact HB.out|apply qd|apply qa|apply qc|refine qh ?_ Ag.out)|exact HB.out)) hb);clear Ab;clear HB;have Ab:=Ak;have HB:=Am;clear Ak Am
          (try clear hb)
          (try clear hb2)
          (try clear hk)
          (try clear hi)
          refine hK.out _ _ ⟨(qe Ab.out 0).trans rfl,(qe Ab.out 1).trans rfl,(qe Ab.out 2).trans rfl⟩ (fun hHeld=>?_);clear hK K;refine zz (a':=?_) ?_ ?_;rotate_left
          ·show Act.put _ (some 37) _=_
           simp only [Act.put,qSa,qSb,qSc,qm,qq]
           rfl
          refine qw (i:=23) (N:=some 38) (v:=?_) (a':=?_) #[true,true,true,true,true,true,true,true,true,true,true,true,true,true,true,true,true,true,true,true,true,true,true,true,false,false,false,false,false,false] rfl rfl (qn HT_.out (by kernel_rfl)) (fun _ _ _ h=>h) (Or.inl ⟨by rfl,?_⟩) ?_ ?_;rotate_left
          ·intro w'
           go_simp
           with_reducible rfl
          rotate_left
          ·simp only [Act.put,qSa,qSb,qSc,qm,qq]
           rfl
          refine qw (i:=24) (N:=some 39) (v:=?_) (a':=?_) #[true,true,true,true,true,true,true,true,true,true,true,true,true,true,true,true,true,true,true,true,true,true,true,true,true,false,false,false,false,false] rfl rfl (qn HT_.out (by kernel_rfl)) (fun _ _ _ h=>h) (Or.inl ⟨by rfl,?_⟩) ?_ ?_;rotate_left
          ·intro w'
           go_simp
           with_reducible rfl
          rotate_left
          ·simp only [Act.put,qSa,qSb,qSc,qm,qq]
           rfl
          refine qw (i:=25) (N:=some 40) (v:=?_) (a':=?_) #[true,true,true,true,true,true,true,true,true,true,true,true,true,true,true,true,true,true,true,true,true,true,true,true,true,true,false,false,false,false] rfl rfl (qn HT_.out (by kernel_rfl)) (fun _ _ _ h=>h) (Or.inl ⟨by rfl,?_⟩) ?_ ?_;rotate_left
          ·intro w'
           go_simp
           with_reducible rfl
          rotate_left
          ·simp only [Act.put,qSa,qSb,qSc,qm,qq]
           rfl
          refine qw (i:=26) (N:=some 41) (v:=undef) (a':=?_) #[true,true,true,true,true,true,true,true,true,true,true,true,true,true,true,true,true,true,true,true,true,true,true,true,true,true,true,false,false,false] rfl rfl (qn HT_.out (by kernel_rfl)) (fun _ _ _ h=>h) (Or.inr ⟨by rfl,rfl⟩) ?_ ?_;rotate_left
          ·simp only [Act.put,qSa,qSb,qSc,qm,qq]
           rfl
          refine qw (i:=27) (N:=some 42) (v:=undef) (a':=?_) #[true,true,true,true,true,true,true,true,true,true,true,true,true,true,true,true,true,true,true,true,true,true,true,true,true,true,true,true,false,false] rfl rfl (qn HT_.out (by kernel_rfl)) (fun _ _ _ h=>h) (Or.inr ⟨by rfl,rfl⟩) ?_ ?_;rotate_left
          ·simp only [Act.put,qSa,qSb,qSc,qm,qq]
           rfl
          refine qw (i:=28) (N:=some 43) (v:=undef) (a':=?_) #[true,true,true,true,true,true,true,true,true,true,true,true,true,true,true,true,true,true,true,true,true,true,true,true,true,true,true,true,true,false] rfl rfl (qn HT_.out (by kernel_rfl)) (fun _ _ _ h=>h) (Or.inr ⟨by rfl,rfl⟩) ?_ ?_;rotate_left
          ·simp only [Act.put,qSa,qSb,qSc,qm,qq]
           rfl
          refine qw (i:=29) (N:=some 44) (v:=?_) (a':=?_) #[true,true,true,true,true,true,true,true,true,true,true,true,true,true,true,true,true,true,true,true,true,true,true,true,true,true,true,true,true,true] rfl rfl (qn HT_.out (by kernel_rfl)) (fun _ _ _ h=>h) (Or.inl ⟨by rfl,?_⟩) ?_ ?_;rotate_left
          ·intro w'
           go_simp
           with_reducible rfl
          rotate_left
          ·simp only [Act.put,qSa,qSb,qSc,qm,qq]
           rfl
          refine jn (zK HT_.out (by kernel_rfl)) ?_;try go_wp2
          go_ret
          exact⟨by first|rfl|(simp [qK,qL] <;> rfl)|(simp [*,qK,qL] <;> rfl),by repeat(first|(with_reducible first|exact HB.out|apply qd|apply qa|apply qc|refine qh ?_ Ag.out)|exact HB.out)⟩
        ·replace c44:=Bool.eq_false_iff.mpr c44
         subst c44;have H1 : (some 3)=some r:=by rw [if_neg (show ¬ (false=true) by decide)] at H;exact H
         clear H;have H:=H1;clear H1;obtain rfl:=Option.some.inj H;have p178 : 0≤(Aa : Int):=of_decide_eq_true (by first|(with_reducible assumption)|assumption);have q178 : Aa<(l0.length : Int):=of_decide_eq_true (by first|(with_reducible assumption)|assumption);obtain⟨ad178,e178,Ad,Ae,Af⟩:=vY HR0.out Aa p178 q178
         cases e178
         replace Ad:=(HB.out.cell (World.block_lt_of_cell? w _ Ad)).trans Ad;replace Ae:=(HB.out.cell (World.block_lt_of_cell? w _ Ae)).trans Ae;replace Af:=(HB.out.cell (World.block_lt_of_cell? w _ Af)).trans Af;replace p178:=eq_true p178;replace q178:=eq_true q178;try go_wp2_with (first|((with_reducible refine vE (N:=4) rfl ?_);refine vD ?hg (N:=4) ?hd (cs:=#[.string (⟨#[]⟩ : ByteArray),.string (⟨#[]⟩ : ByteArray),.int .i64 0]) (t:=50) ?hr ?_;(case hd=>rfl);(case hg=>rfl);(case hr=>first|(go_simp;done)|(go_simp;rfl));intro Ac hg w66 hbox hb;have Ak:=qb.mk (qB (by repeat(first|(with_reducible first|exact HB.out|apply qd|apply qa|apply qc)|exact HB.out)) hb);have Am:=qb.mk (hbox);have Ap:=qb.mk ((by rw [hg];exact(qG (by repeat(first|(with_reducible first|exact HB.out|apply qd|apply qa|apply qc)|exact HB.out))) : w.heap.size≤Ac));have Aq:=qb.mk ((by rw [hg];exact(qG (by repeat(first|(with_reducible first|exact HB.out|apply qd|apply qa|apply qc)|exact HB.out))) : w.heap.size≤Ac));clear HB;have HB:=Ak;have Ab:=Am;have Ar:=Ap;have Ag:=Aq;clear Ak Am Ap Aq;clear hb hbox hg;have hcz67_0 : w66.cell? ⟨Ac,0,none⟩=some (.string (⟨#[]⟩ : ByteArray)):=(qe Ab.out 0).trans rfl;have hcz67_1 : w66.cell? ⟨Ac,1,none⟩=some (.string (⟨#[]⟩ : ByteArray)):=(qe Ab.out 1).trans rfl;have hcz67_2 : w66.cell? ⟨Ac,2,none⟩=some (.int .i64 0):=(qe Ab.out 2).trans rfl;have hfz67_0:=qg Ab.out 0;have hfz67_1:=qg Ab.out 1;have hfz67_2:=qg Ab.out 2))
         have Ak : qb ((((w66.setCell ⟨Ac,0,none⟩ (.string ((qj l0 Aa).f0))).setCell ⟨Ac,1,none⟩ (.string ((qj l0 Aa).f1))).setCell ⟨Ac,2,none⟩ (.int .i64 ((qj l0 Aa).f2))).heap[Ac]? = some (.cells #[.string ((qj l0 Aa).f0),.string ((qj l0 Aa).f1),.int .i64 ((qj l0 Aa).f2)] 50 (0,0))):=⟨by(with_reducible repeat(first|refine qp ?_ _|refine qu ?_|refine qo ?_ _));refine vC (cs:=#[.string ((qj l0 Aa).f0),.string ((qj l0 Aa).f1),.int .i64 0]) ?_ 2 _ rfl;(with_reducible repeat(first|refine qp ?_ _|refine qu ?_|refine qo ?_ _));refine vC (cs:=#[.string ((qj l0 Aa).f0),.string (⟨#[]⟩ : ByteArray),.int .i64 0]) ?_ 1 _ rfl;(with_reducible repeat(first|refine qp ?_ _|refine qu ?_|refine qo ?_ _));refine vC (cs:=#[.string (⟨#[]⟩ : ByteArray),.string (⟨#[]⟩ : ByteArray),.int .i64 0]) ?_ 0 _ rfl;(with_reducible repeat(first|refine qp ?_ _|refine qu ?_|refine qo ?_ _));exact Ab.out⟩;have Am : qb (Below w.heap.size w (((w66.setCell ⟨Ac,0,none⟩ (.string ((qj l0 Aa).f0))).setCell ⟨Ac,1,none⟩ (.string ((qj l0 Aa).f1))).setCell ⟨Ac,2,none⟩ (.int .i64 ((qj l0 Aa).f2)))):=⟨by repeat(first|(with_reducible first|exact HB.out|apply qd|apply qa|apply qc|refine qh ?_ Ag.out)|exact HB.out)⟩
         (try clear Ab)
         (try clear HB)
         generalize (((w66.setCell ⟨Ac,0,none⟩ (.string ((qj l0 Aa).f0))).setCell ⟨Ac,1,none⟩ (.string ((qj l0 Aa).f1))).setCell ⟨Ac,2,none⟩ (.int .i64 ((qj l0 Aa).f2)))=w68 at Ak Am ⊢
         have Ab:=Ak;have HB:=Am;clear Ak Am;have Ak:=qb.mk (qu Ab.out);have Am:=qb.mk (qc HB.out);clear Ab;clear HB;have Ab:=Ak;have HB:=Am;clear Ak Am;refine zS (n:=30) (S:=fun w'=>w'.cell? ⟨Ac,0,none⟩=some (.string ((qj l0 Aa).f0))∧w'.cell? ⟨Ac,1,none⟩=some (.string ((qj l0 Aa).f1))∧w'.cell? ⟨Ac,2,none⟩=some (.int .i64 ((qj l0 Aa).f2))) (ds:=[]) #[false,false,false,false,false,false,false,false,false,false,false,false,false,false,false,false,false,false,false,false,false,false,false,false,false,false,false,false,false,false] (by kernel_rfl) rfl rfl ⟨(qe Ab.out 0).trans rfl,(qe Ab.out 1).trans rfl,(qe Ab.out 2).trans rfl⟩ (fun hHeld=>?_);refine zu qM.tab6 qM.bits6 (fun HT_ HW_=>?_)
         generalize w68.drew=w69 at Ab HB hHeld ⊢
         refine qw (i:=0) (N:=some 15) (v:=?_) (a':=?_) #[true,false,false,false,false,false,false,false,false,false,false,false,false,false,false,false,false,false,false,false,false,false,false,false,false,false,false,false,false,false] rfl rfl (qn HT_.out (by kernel_rfl)) (fun _ _ _ h=>h) (Or.inl ⟨by rfl,?_⟩) ?_ ?_;rotate_left
         ·intro w'
          go_simp
          with_reducible rfl
         rotate_left
         ·simp only [Act.put,qSa,qSb,qSc,qm,qq]
          rfl
         refine qw (i:=1) (N:=some 16) (v:=?_) (a':=?_) #[true,true,false,false,false,false,false,false,false,false,false,false,false,false,false,false,false,false,false,false,false,false,false,false,false,false,false,false,false,false] rfl rfl (qn HT_.out (by kernel_rfl)) (fun _ _ _ h=>h) (Or.inl ⟨by rfl,?_⟩) ?_ ?_;rotate_left
         ·intro w'
          go_simp
          with_reducible rfl
         rotate_left
         ·simp only [Act.put,qSa,qSb,qSc,qm,qq]
          rfl
         refine qw (i:=2) (N:=some 17) (v:=?_) (a':=?_) #[true,true,true,false,false,false,false,false,false,false,false,false,false,false,false,false,false,false,false,false,false,false,false,false,false,false,false,false,false,false] rfl rfl (qn HT_.out (by kernel_rfl)) (fun _ _ _ h=>h) (Or.inl ⟨by rfl,?_⟩) ?_ ?_;rotate_left
         ·intro w'
          go_simp
          with_reducible rfl
         rotate_left
         ·simp only [Act.put,qSa,qSb,qSc,qm,qq]
          rfl
         refine qw (i:=3) (N:=some 18) (v:=undef) (a':=?_) #[true,true,true,true,false,false,false,false,false,false,false,false,false,false,false,false,false,false,false,false,false,false,false,false,false,false,false,false,false,false] rfl rfl (qn HT_.out (by kernel_rfl)) (fun _ _ _ h=>h) (Or.inr ⟨by rfl,rfl⟩) ?_ ?_;rotate_left
         ·simp only [Act.put,qSa,qSb,qSc,qm,qq]
          rfl
         refine qw (i:=4) (N:=some 19) (v:=undef) (a':=?_) #[true,true,true,true,true,false,false,false,false,false,false,false,false,false,false,false,false,false,false,false,false,false,false,false,false,false,false,false,false,false] rfl rfl (qn HT_.out (by kernel_rfl)) (fun _ _ _ h=>h) (Or.inr ⟨by rfl,rfl⟩) ?_ ?_;rotate_left
         ·simp only [Act.put,qSa,qSb,qSc,qm,qq]
          rfl
         refine qw (i:=5) (N:=some 20) (v:=undef) (a':=?_) #[true,true,true,true,true,true,false,false,false,false,false,false,false,false,false,false,false,false,false,false,false,false,false,false,false,false,false,false,false,false] rfl rfl (qn HT_.out (by kernel_rfl)) (fun _ _ _ h=>h) (Or.inr ⟨by rfl,rfl⟩) ?_ ?_;rotate_left
         ·simp only [Act.put,qSa,qSb,qSc,qm,qq]
          rfl
         refine qw (i:=6) (N:=some 21) (v:=undef) (a':=?_) #[true,true,true,true,true,true,true,false,false,false,false,false,false,false,false,false,false,false,false,false,false,false,false,false,false,false,false,false,false,false] rfl rfl (qn HT_.out (by kernel_rfl)) (fun _ _ _ h=>h) (Or.inr ⟨by rfl,rfl⟩) ?_ ?_;rotate_left
         ·simp only [Act.put,qSa,qSb,qSc,qm,qq]
          rfl
         refine qw (i:=7) (N:=some 22) (v:=undef) (a':=?_) #[true,true,true,true,true,true,true,true,false,false,false,false,false,false,false,false,false,false,false,false,false,false,false,false,false,false,false,false,false,false] rfl rfl (qn HT_.out (by kernel_rfl)) (fun _ _ _ h=>h) (Or.inr ⟨by rfl,rfl⟩) ?_ ?_;rotate_left
         ·simp only [Act.put,qSa,qSb,qSc,qm,qq]
          rfl
         refine qw (i:=8) (N:=some 23) (v:=undef) (a':=?_) #[true,true,true,true,true,true,true,true,true,false,false,false,false,false,false,false,false,false,false,false,false,false,false,false,false,false,false,false,false,false] rfl rfl (qn HT_.out (by kernel_rfl)) (fun _ _ _ h=>h) (Or.inr ⟨by rfl,rfl⟩) ?_ ?_;rotate_left
         ·simp only [Act.put,qSa,qSb,qSc,qm,qq]
          rfl
         refine qw (i:=9) (N:=some 24) (v:=undef) (a':=?_) #[true,true,true,true,true,true,true,true,true,true,false,false,false,false,false,false,false,false,false,false,false,false,false,false,false,false,false,false,false,false] rfl rfl (qn HT_.out (by kernel_rfl)) (fun _ _ _ h=>h) (Or.inr ⟨by rfl,rfl⟩) ?_ ?_;rotate_left
         ·simp only [Act.put,qSa,qSb,qSc,qm,qq]
          rfl
         refine qw (i:=10) (N:=some 25) (v:=undef) (a':=?_) #[true,true,true,true,true,true,true,true,true,true,true,false,false,false,false,false,false,false,false,false,false,false,false,false,false,false,false,false,false,false] rfl rfl (qn HT_.out (by kernel_rfl)) (fun _ _ _ h=>h) (Or.inr ⟨by rfl,rfl⟩) ?_ ?_;rotate_left
         ·simp only [Act.put,qSa,qSb,qSc,qm,qq]
          rfl
         refine qw (i:=11) (N:=some 26) (v:=undef) (a':=?_) #[true,true,true,true,true,true,true,true,true,true,true,true,false,false,false,false,false,false,false,false,false,false,false,false,false,false,false,false,false,false] rfl rfl (qn HT_.out (by kernel_rfl)) (fun _ _ _ h=>h) (Or.inr ⟨by rfl,rfl⟩) ?_ ?_;rotate_left
         ·simp only [Act.put,qSa,qSb,qSc,qm,qq]
          rfl
         refine qw (i:=12) (N:=some 27) (v:=?_) (a':=?_) #[true,true,true,true,true,true,true,true,true,true,true,true,true,false,false,false,false,false,false,false,false,false,false,false,false,false,false,false,false,false] rfl rfl (qn HT_.out (by kernel_rfl)) (fun _ _ _ h=>h) (Or.inl ⟨by rfl,?_⟩) ?_ ?_;rotate_left
         ·intro w'
          go_simp
          with_reducible rfl
         rotate_left
         ·simp only [Act.put,qSa,qSb,qSc,qm,qq]
          rfl
         refine qw (i:=13) (N:=some 28) (v:=?_) (a':=?_) #[true,true,true,true,true,true,true,true,true,true,true,true,true,true,false,false,false,false,false,false,false,false,false,false,false,false,false,false,false,false] rfl rfl (qn HT_.out (by kernel_rfl)) (fun _ _ _ h=>h) (Or.inl ⟨by rfl,?_⟩) ?_ ?_;rotate_left
         ·intro w'
          go_simp
          with_reducible rfl
         rotate_left
         ·simp only [Act.put,qSa,qSb,qSc,qm,qq]
          rfl
         refine qw (i:=14) (N:=some 29) (v:=?_) (a':=?_) #[true,true,true,true,true,true,true,true,true,true,true,true,true,true,true,false,false,false,false,false,false,false,false,false,false,false,false,false,false,false] rfl rfl (qn HT_.out (by kernel_rfl)) (fun _ _ _ h=>h) (Or.inl ⟨by rfl,?_⟩) ?_ ?_;rotate_left
         ·intro w'
          go_simp
          with_reducible rfl
         rotate_left
         ·simp only [Act.put,qSa,qSb,qSc,qm,qq]
          rfl
         refine vZ (i:=15) (N:=some 30) (v:=?_) (a':=?_) #[true,true,true,true,true,true,true,true,true,true,true,true,true,true,true,true,false,false,false,false,false,false,false,false,false,false,false,false,false,false] rfl rfl (vu HT_.out HW_.out (by kernel_rfl)) (fun _ _ _ h=>h) (Or.inl ⟨by rfl,?_⟩) hHeld ?_ ?_;rotate_left
         ·rintro w' ⟨s0,s1,s2⟩
          go_simp
          with_reducible rfl
         rotate_left
         ·simp only [Act.put,qSa,qSb,qSc,qm,qq]
          rfl
         refine zP (i:=16) (N:=some 31) #[true,true,true,true,true,true,true,true,true,true,true,true,true,true,true,true,true,false,false,false,false,false,false,false,false,false,false,false,false,false] rfl rfl (zm HT_.out (by kernel_rfl)) (by decide) (fun K hK=>?_);refine zy Tryd.func21 (by kernel_rfl) rfl #[.string ((qj l0 Aa).f0)] (by rfl) rfl rfl (by(try simp only [List.map_toArray,List.map_cons,List.map_nil]);first|done|rfl|(simp only [List.length_drop,List.length_take];rfl)) ?_
         with_reducible refine(zi.calls k1 ((qj l0 Aa).f0) false _ A43.out (HT.out.go (by repeat(first|(with_reducible first|exact HB.out|apply qd|apply qa|apply qc|refine qh ?_ Ag.out)|exact HB.out)))).mono ?_
         rintro e w70 ⟨rfl,hb⟩;refine⟨_,rfl,?_⟩;have Ak:=qb.mk (qJ (g:=Ac) (o:=.cells #[.string ((qj l0 Aa).f0),.string ((qj l0 Aa).f1),.int .i64 ((qj l0 Aa).f2)] 50 (0,0)) (by(with_reducible repeat(first|refine qp ?_ _|refine qu ?_|refine qo ?_ _));exact Ab.out) hb);have Am:=qb.mk (qB (by repeat(first|(with_reducible first|exact HB.out|apply qd|apply qa|apply qc|refine qh ?_ Ag.out)|exact HB.out)) hb);clear Ab;clear HB;have Ab:=Ak;have HB:=Am;clear Ak Am
         (try clear hb)
         (try clear hb2)
         (try clear hk)
         (try clear hi)
         refine hK.out _ _ ⟨(qe Ab.out 0).trans rfl,(qe Ab.out 1).trans rfl,(qe Ab.out 2).trans rfl⟩ (fun hHeld=>?_);clear hK K;refine zz (a':=?_) ?_ ?_;rotate_left
         ·show Act.put _ (some 31) _=_
          simp only [Act.put,qSa,qSb,qSc,qm,qq]
          rfl
         refine qw (i:=17) (N:=some 32) (v:=?_) (a':=?_) #[true,true,true,true,true,true,true,true,true,true,true,true,true,true,true,true,true,true,false,false,false,false,false,false,false,false,false,false,false,false] rfl rfl (qn HT_.out (by kernel_rfl)) (fun _ _ _ h=>h) (Or.inl ⟨by rfl,?_⟩) ?_ ?_;rotate_left
         ·intro w'
          go_simp
          with_reducible rfl
         rotate_left
         ·simp only [Act.put,qSa,qSb,qSc,qm,qq]
          rfl
         refine qw (i:=18) (N:=some 33) (v:=?_) (a':=?_) #[true,true,true,true,true,true,true,true,true,true,true,true,true,true,true,true,true,true,true,false,false,false,false,false,false,false,false,false,false,false] rfl rfl (qn HT_.out (by kernel_rfl)) (fun _ _ _ h=>h) (Or.inl ⟨by rfl,?_⟩) ?_ ?_;rotate_left
         ·intro w'
          go_simp
          with_reducible rfl
         rotate_left
         ·simp only [Act.put,qSa,qSb,qSc,qm,qq]
          rfl
         refine qw (i:=19) (N:=some 34) (v:=?_) (a':=?_) #[true,true,true,true,true,true,true,true,true,true,true,true,true,true,true,true,true,true,true,true,false,false,false,false,false,false,false,false,false,false] rfl rfl (qn HT_.out (by kernel_rfl)) (fun _ _ _ h=>h) (Or.inl ⟨by rfl,?_⟩) ?_ ?_;rotate_left
         ·intro w'
          go_simp
          with_reducible rfl
         rotate_left
         ·simp only [Act.put,qSa,qSb,qSc,qm,qq]
          rfl
         refine qw (i:=20) (N:=some 35) (v:=undef) (a':=?_) #[true,true,true,true,true,true,true,true,true,true,true,true,true,true,true,true,true,true,true,true,true,false,false,false,false,false,false,false,false,false] rfl rfl (qn HT_.out (by kernel_rfl)) (fun _ _ _ h=>h) (Or.inr ⟨by rfl,rfl⟩) ?_ ?_;rotate_left
         ·simp only [Act.put,qSa,qSb,qSc,qm,qq]
          rfl
         refine qw (i:=21) (N:=some 36) (v:=undef) (a':=?_) #[true,true,true,true,true,true,true,true,true,true,true,true,true,true,true,true,true,true,true,true,true,true,false,false,false,false,false,false,false,false] rfl rfl (qn HT_.out (by kernel_rfl)) (fun _ _ _ h=>h) (Or.inr ⟨by rfl,rfl⟩) ?_ ?_;rotate_left
         ·simp only [Act.put,qSa,qSb,qSc,qm,qq]
          rfl
         refine qw (i:=22) (N:=some 37) (v:=undef) (a':=?_) #[true,true,true,true,true,true,true,true,true,true,true,true,true,true,true,true,true,true,true,true,true,true,true,false,false,false,false,false,false,false] rfl rfl (qn HT_.out (by kernel_rfl)) (fun _ _ _ h=>h) (Or.inr ⟨by rfl,rfl⟩) ?_ ?_;rotate_left
         ·simp only [Act.put,qSa,qSb,qSc,qm,qq]
          rfl
         refine qw (i:=23) (N:=some 38) (v:=undef) (a':=?_) #[true,true,true,true,true,true,true,true,true,true,true,true,true,true,true,true,true,true,true,true,true,true,true,true,false,false,false,false,false,false] rfl rfl (qn HT_.out (by kernel_rfl)) (fun _ _ _ h=>h) (Or.inr ⟨by rfl,rfl⟩) ?_ ?_;rotate_left
         ·simp only [Act.put,qSa,qSb,qSc,qm,qq]
          rfl
         refine qw (i:=24) (N:=some 39) (v:=?_) (a':=?_) #[true,true,true,true,true,true,true,true,true,true,true,true,true,true,true,true,true,true,true,true,true,true,true,true,true,false,false,false,false,false] rfl rfl (qn HT_.out (by kernel_rfl)) (fun _ _ _ h=>h) (Or.inl ⟨by rfl,?_⟩) ?_ ?_;rotate_left
         ·intro w'
          go_simp
          with_reducible rfl
         rotate_left
         ·simp only [Act.put,qSa,qSb,qSc,qm,qq]
          rfl
         refine qw (i:=25) (N:=some 40) (v:=?_) (a':=?_) #[true,true,true,true,true,true,true,true,true,true,true,true,true,true,true,true,true,true,true,true,true,true,true,true,true,true,false,false,false,false] rfl rfl (qn HT_.out (by kernel_rfl)) (fun _ _ _ h=>h) (Or.inl ⟨by rfl,?_⟩) ?_ ?_;rotate_left
         ·intro w'
          go_simp
          with_reducible rfl
         rotate_left
         ·simp only [Act.put,qSa,qSb,qSc,qm,qq]
          rfl
         refine qw (i:=26) (N:=some 41) (v:=undef) (a':=?_) #[true,true,true,true,true,true,true,true,true,true,true,true,true,true,true,true,true,true,true,true,true,true,true,true,true,true,true,false,false,false] rfl rfl (qn HT_.out (by kernel_rfl)) (fun _ _ _ h=>h) (Or.inr ⟨by rfl,rfl⟩) ?_ ?_;rotate_left
         ·simp only [Act.put,qSa,qSb,qSc,qm,qq]
          rfl
         refine qw (i:=27) (N:=some 42) (v:=undef) (a':=?_) #[true,true,true,true,true,true,true,true,true,true,true,true,true,true,true,true,true,true,true,true,true,true,true,true,true,true,true,true,false,false] rfl rfl (qn HT_.out (by kernel_rfl)) (fun _ _ _ h=>h) (Or.inr ⟨by rfl,rfl⟩) ?_ ?_;rotate_left
         ·simp only [Act.put,qSa,qSb,qSc,qm,qq]
          rfl
         refine qw (i:=28) (N:=some 43) (v:=undef) (a':=?_) #[true,true,true,true,true,true,true,true,true,true,true,true,true,true,true,true,true,true,true,true,true,true,true,true,true,true,true,true,true,false] rfl rfl (qn HT_.out (by kernel_rfl)) (fun _ _ _ h=>h) (Or.inr ⟨by rfl,rfl⟩) ?_ ?_;rotate_left
         ·simp only [Act.put,qSa,qSb,qSc,qm,qq]
          rfl
         refine qw (i:=29) (N:=some 44) (v:=?_) (a':=?_) #[true,true,true,true,true,true,true,true,true,true,true,true,true,true,true,true,true,true,true,true,true,true,true,true,true,true,true,true,true,true] rfl rfl (qn HT_.out (by kernel_rfl)) (fun _ _ _ h=>h) (Or.inl ⟨by rfl,?_⟩) ?_ ?_;rotate_left
         ·intro w'
          go_simp
          with_reducible rfl
         rotate_left
         ·simp only [Act.put,qSa,qSb,qSc,qm,qq]
          rfl
         refine jn (zK HT_.out (by kernel_rfl)) ?_;try go_wp2
         go_ret
         exact⟨by first|rfl|(simp [qK,qL] <;> rfl)|(simp [*,qK,qL] <;> rfl),by repeat(first|(with_reducible first|exact HB.out|apply qd|apply qa|apply qc|refine qh ?_ Ag.out)|exact HB.out)⟩
      ·rw [if_neg c5] at H
       exact absurd H (by simp)
     ·rw [if_neg c4] at H
      exact absurd H (by simp)
    ·rw [if_neg c3] at H
     have c3b0 : decide (Aa<(l0.length : Int))=false:=decide_eq_false c3;clear c3;obtain rfl:=Option.some.inj H;go_wp2
     go_ret
     exact⟨by first|rfl|(simp [qK,qL] <;> rfl)|(simp [*,qK,qL] <;> rfl),by repeat(first|(with_reducible first|exact HB.out|apply qd|apply qa|apply qc)|exact HB.out)⟩
end Go.Proofs.YtalpmbeddldfoaaDoor.PA
