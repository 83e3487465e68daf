import Derived.Test.YtalpmbeddldfoaaDoorF0
import Derived.Test.YtalpmbeddldfoaaDoorFChangeoverref05Val
namespace Go.Proofs.YtalpmbeddldfoaaDoor.PA
open Go.RowKit Go.Proofs.YtalpmbeddldfoaaDoor.Hand Go.Proofs.YtalpmbeddldfoaaDoorW.PrintWords Go.Proofs.YtalpmbeddldfoaaDoorW.PrintLast Go.Proofs.YtalpmbeddldfoaaDoorW.PrintMore
attribute [local go_sem] vW vV zc zb vG vF vU vT
attribute [local go_sem high] za zd ze
set_option linter.unusedVariables false
set_option linter.unusedSimpArgs false
def qF.j0 : Nat→Bool→Int→Int→Int→Bool→ByteArray→Int→Option (Int)
 | 0,_,_,_,_,_,_,_=>none
 | k + 1,x40,x247000,x247001,x247002,x247003,Ag,x247005=>if x40=true then(some 6) else((qv.f k Ag).bind fun Ae=>(if Ae=true then(some 0) else(some 7)))
def qF.f(k : Nat)(a0_0 : Int)(a0_1 : Int)(a0_2 : Int)(a0_3 : Bool)(a0_4 : ByteArray)(a0_5 : Int) : Option (Int):=if a0_0<1 then(qF.j0 k true a0_0 a0_1 a0_2 a0_3 a0_4 a0_5) else(if a0_0 > 8 then(qF.j0 k true a0_0 a0_1 a0_2 a0_3 a0_4 a0_5) else(if a0_1<1 then(qF.j0 k true a0_0 a0_1 a0_2 a0_3 a0_4 a0_5) else(if a0_1 > 4294967296 then(qF.j0 k true a0_0 a0_1 a0_2 a0_3 a0_4 a0_5) else(if a0_2<0 then(qF.j0 k true a0_0 a0_1 a0_2 a0_3 a0_4 a0_5) else(if a0_2 > 17 then(qF.j0 k true a0_0 a0_1 a0_2 a0_3 a0_4 a0_5) else(if a0_5<0 then(qF.j0 k true a0_0 a0_1 a0_2 a0_3 a0_4 a0_5) else(qF.j0 k (decide (a0_5 > 4294967296)) a0_0 a0_1 a0_2 a0_3 a0_4 a0_5)))))))
theorem qF.mono_l : ∀ k,(∀ y0 y1 y2 y3 y4 y5 y6,qR (qF.j0 k y0 y1 y2 y3 y4 y5 y6) (qF.j0 (k + 1) y0 y1 y2 y3 y4 y5 y6))
 | 0=>fun _ _ _ _ _ _ _ r h=>by simp [qF.j0] at h
 | k + 1=>by
  have ih0:=qF.mono_l k
  ·intro y0 y1 y2 y3 y4 y5 y6
   unfold qF.j0
   repeat' first
   | (with_reducible exact ih0 _ _ _ _ _ _ _)
   | (with_reducible exact qv.mono _ _)
   | (with_reducible exact qR.refl _)
   | (with_reducible exact qR.none _)
   | (with_reducible refine qR.ite ?_ ?_)
   | (with_reducible refine qR.bind ?_ (fun _=>?_))
   | exact ih0 _ _ _ _ _ _ _
   | exact qv.mono _ _
   | exact qR.none _
   | refine qR.ite ?_ ?_
   | refine qR.bind ?_ (fun _=>?_)
theorem qF.mono : ∀ a0 a1 a2 a3 a4 a5 k,qR (qF.f k a0 a1 a2 a3 a4 a5) (qF.f (k + 1) a0 a1 a2 a3 a4 a5):=by
 intro a0 a1 a2 a3 a4 a5 k;have ih0:=qF.mono_l k;unfold qF.f
 repeat' first
  | (with_reducible exact ih0 _ _ _ _ _ _ _)
  | (with_reducible exact qv.mono _ _)
  | (with_reducible exact qR.refl _)
  | (with_reducible exact qR.none _)
  | (with_reducible refine qR.ite ?_ ?_)
  | (with_reducible refine qR.bind ?_ (fun _=>?_))
  | exact ih0 _ _ _ _ _ _ _
  | exact qv.mono _ _
  | exact qR.none _
  | refine qR.ite ?_ ?_
  | refine qR.bind ?_ (fun _=>?_)
set_option maxHeartbeats 8000000 in
set_option maxRecDepth 100000 in
theorem qF.calls(k : Nat)(a0_0 : Int)(a0_1 : Int)(a0_2 : Int)(a0_3 : Bool)(a0_4 : ByteArray)(a0_5 : Int)(r : Int)(w : World)(h : qF.f k a0_0 a0_1 a0_2 a0_3 a0_4 a0_5=some r) :
 Calls Tryd.prog 81 #[.agg #[.int .i64 a0_0,.int .i64 a0_1,.int .i64 a0_2,.bool a0_3,.string a0_4,.int .i64 a0_5]] w fun e w'=>e = .returned (.int .i64 r)∧Below w.heap.size w w':=by
 have hu72:=Tryd.underlying72;have HB:=qb.mk (Below.refl w.heap.size w);have H : (if a0_0<1 then(qF.j0 k true a0_0 a0_1 a0_2 a0_3 a0_4 a0_5) else(if a0_0 > 8 then(qF.j0 k true a0_0 a0_1 a0_2 a0_3 a0_4 a0_5) else(if a0_1<1 then(qF.j0 k true a0_0 a0_1 a0_2 a0_3 a0_4 a0_5) else(if a0_1 > 4294967296 then(qF.j0 k true a0_0 a0_1 a0_2 a0_3 a0_4 a0_5) else(if a0_2<0 then(qF.j0 k true a0_0 a0_1 a0_2 a0_3 a0_4 a0_5) else(if a0_2 > 17 then(qF.j0 k true a0_0 a0_1 a0_2 a0_3 a0_4 a0_5) else(if a0_5<0 then(qF.j0 k true a0_0 a0_1 a0_2 a0_3 a0_4 a0_5) else(qF.j0 k (decide (a0_5 > 4294967296)) a0_0 a0_1 a0_2 a0_3 a0_4 a0_5))))))))=some r:=h;clear h;have HC2:=qb.mk H;clear H;go_enter Tryd.func81,Tryd.ntmps81
 go_upto_region 1 with (first|((with_reducible refine vE (N:=1) rfl ?_);refine vD ?hg (N:=1) ?hd (cs:=#[.int .i64 a0_0,.int .i64 a0_1,.int .i64 a0_2,.bool a0_3,.string a0_4,.int .i64 a0_5]) (t:=72) ?hr ?_;(case hd=>rfl);(case hg=>rfl);(case hr=>first|(go_simp;done)|(go_simp;rfl));intro Ab hg w3 hbox hb;have n0_:=qb.mk (qB (by repeat(first|(with_reducible first|exact HB.out|apply qd|apply qa|apply qc)|exact HB.out)) hb);have n1_:=qb.mk (hbox);have n2_:=qb.mk ((by rw [hg];exact(qG (by repeat(first|(with_reducible first|exact HB.out|apply qd|apply qa|apply qc)|exact HB.out))) : w.heap.size≤Ab));have n3_:=qb.mk ((by rw [hg];exact(qG (by repeat(first|(with_reducible first|exact HB.out|apply qd|apply qa|apply qc)|exact HB.out))) : w.heap.size≤Ab));clear HB;have HB:=n0_;have Aa:=n1_;have GW246:=n2_;have Ac:=n3_;clear n0_ n1_ n2_ n3_;clear hb hbox hg))
 (try simp only [Act.put,qSa,qSb,qSc])
 go_cut [40] (fun v40 wc=>∃ (kq : Nat) (Ad : Bool),v40 = .bool Ad∧qb (qF.j0 kq Ad a0_0 a0_1 a0_2 a0_3 a0_4 a0_5=some r)∧qb (kq≤k)∧qb (wc.heap[Ab]? = some (.cells #[.int .i64 a0_0,.int .i64 a0_1,.int .i64 a0_2,.bool a0_3,.string a0_4,.int .i64 a0_5] 72 (0,0)))∧qb (Below w.heap.size w wc))
 case first=>
  have H:=HC2.out;clear HC2;by_cases c4 : a0_0<1
  ·rw [if_pos c4] at H
   have Af : decide (a0_0<1)=true:=decide_eq_true c4;clear c4
   (first|rw [Af]|(simp only [qm,qq];rw [Af])|skip)
   have H':=qb.mk H;clear H;have AW : w3.cell? ⟨Ab,0,none⟩=some (.int .i64 a0_0):=(qe Aa.out 0).trans rfl;have AX : w3.cell? ⟨Ab,1,none⟩=some (.int .i64 a0_1):=(qe Aa.out 1).trans rfl;have AY : w3.cell? ⟨Ab,2,none⟩=some (.int .i64 a0_2):=(qe Aa.out 2).trans rfl;have AZ : w3.cell? ⟨Ab,3,none⟩=some (.bool a0_3):=(qe Aa.out 3).trans rfl;have Ba : w3.cell? ⟨Ab,4,none⟩=some (.string a0_4):=(qe Aa.out 4).trans rfl;have Bb : w3.cell? ⟨Ab,5,none⟩=some (.int .i64 a0_5):=(qe Aa.out 5).trans rfl;have hfz5_0:=qg Aa.out 0;have hfz5_1:=qg Aa.out 1;have hfz5_2:=qg Aa.out 2;have hfz5_3:=qg Aa.out 3;have hfz5_4:=qg Aa.out 4;have hfz5_5:=qg Aa.out 5;go_wp2
   go_meet
   case rel=>exact⟨_,(true),(by first|rfl|(simp;done)|(simp [*];done)),H',⟨by first|omega|exact Nat.le_refl _⟩,⟨by(with_reducible repeat(first|refine qp ?_ _|refine qu ?_|refine qo ?_ _));exact Aa.out⟩,⟨by repeat(first|(with_reducible first|exact HB.out|apply qd|apply qa|apply qc|refine qh ?_ Ac.out)|exact HB.out)⟩⟩
  ·rw [if_neg c4] at H
   have Af : decide (a0_0<1)=false:=decide_eq_false c4;clear c4
   (first|rw [Af]|(simp only [qm,qq];rw [Af])|skip)
   by_cases c6 : a0_0 > 8
   ·rw [if_pos c6] at H
    have c6b0 : decide (8<a0_0)=true:=decide_eq_true c6;clear c6;have H':=qb.mk H;clear H;have Bc : w3.cell? ⟨Ab,0,none⟩=some (.int .i64 a0_0):=(qe Aa.out 0).trans rfl;have Bd : w3.cell? ⟨Ab,1,none⟩=some (.int .i64 a0_1):=(qe Aa.out 1).trans rfl;have Be : w3.cell? ⟨Ab,2,none⟩=some (.int .i64 a0_2):=(qe Aa.out 2).trans rfl;have Bf : w3.cell? ⟨Ab,3,none⟩=some (.bool a0_3):=(qe Aa.out 3).trans rfl;have Bg : w3.cell? ⟨Ab,4,none⟩=some (.string a0_4):=(qe Aa.out 4).trans rfl;have Bh : w3.cell? ⟨Ab,5,none⟩=some (.int .i64 a0_5):=(qe Aa.out 5).trans rfl;have hfz7_0:=qg Aa.out 0;have hfz7_1:=qg Aa.out 1;have hfz7_2:=qg Aa.out 2;have hfz7_3:=qg Aa.out 3;have hfz7_4:=qg Aa.out 4;have hfz7_5:=qg Aa.out 5;go_wp2
    go_meet
    case rel=>exact⟨_,(true),(by first|rfl|(simp;done)|(simp [*];done)),H',⟨by first|omega|exact Nat.le_refl _⟩,⟨by(with_reducible repeat(first|refine qp ?_ _|refine qu ?_|refine qo ?_ _));exact Aa.out⟩,⟨by repeat(first|(with_reducible first|exact HB.out|apply qd|apply qa|apply qc|refine qh ?_ Ac.out)|exact HB.out)⟩⟩
   ·rw [if_neg c6] at H
    have c6b0 : decide (8<a0_0)=false:=decide_eq_false c6;clear c6;by_cases c8 : a0_1<1
    ·rw [if_pos c8] at H
     have c8b0 : decide (a0_1<1)=true:=decide_eq_true c8;clear c8;have H':=qb.mk H;clear H;have Bi : w3.cell? ⟨Ab,0,none⟩=some (.int .i64 a0_0):=(qe Aa.out 0).trans rfl;have Bj : w3.cell? ⟨Ab,1,none⟩=some (.int .i64 a0_1):=(qe Aa.out 1).trans rfl;have Bk : w3.cell? ⟨Ab,2,none⟩=some (.int .i64 a0_2):=(qe Aa.out 2).trans rfl;have Bm : w3.cell? ⟨Ab,3,none⟩=some (.bool a0_3):=(qe Aa.out 3).trans rfl;have Bn : w3.cell? ⟨Ab,4,none⟩=some (.string a0_4):=(qe Aa.out 4).trans rfl;have Bo : w3.cell? ⟨Ab,5,none⟩=some (.int .i64 a0_5):=(qe Aa.out 5).trans rfl;have hfz9_0:=qg Aa.out 0;have hfz9_1:=qg Aa.out 1;have hfz9_2:=qg Aa.out 2;have hfz9_3:=qg Aa.out 3;have hfz9_4:=qg Aa.out 4;have hfz9_5:=qg Aa.out 5;go_wp2
     go_meet
     case rel=>exact⟨_,(true),(by first|rfl|(simp;done)|(simp [*];done)),H',⟨by first|omega|exact Nat.le_refl _⟩,⟨by(with_reducible repeat(first|refine qp ?_ _|refine qu ?_|refine qo ?_ _));exact Aa.out⟩,⟨by repeat(first|(with_reducible first|exact HB.out|apply qd|apply qa|apply qc|refine qh ?_ Ac.out)|exact HB.out)⟩⟩
    ·rw [if_neg c8] at H
     have c8b0 : decide (a0_1<1)=false:=decide_eq_false c8;clear c8;by_cases Bp : a0_1 > 4294967296
     ·rw [if_pos Bp] at H
      have AQ : decide (4294967296<a0_1)=true:=decide_eq_true Bp;clear Bp;have H':=qb.mk H;clear H;have Ah : w3.cell? ⟨Ab,0,none⟩=some (.int .i64 a0_0):=(qe Aa.out 0).trans rfl;have Ai : w3.cell? ⟨Ab,1,none⟩=some (.int .i64 a0_1):=(qe Aa.out 1).trans rfl;have Aj : w3.cell? ⟨Ab,2,none⟩=some (.int .i64 a0_2):=(qe Aa.out 2).trans rfl;have Ak : w3.cell? ⟨Ab,3,none⟩=some (.bool a0_3):=(qe Aa.out 3).trans rfl;have Am : w3.cell? ⟨Ab,4,none⟩=some (.string a0_4):=(qe Aa.out 4).trans rfl;have Ao : w3.cell? ⟨Ab,5,none⟩=some (.int .i64 a0_5):=(qe Aa.out 5).trans rfl;have hfz11_0:=qg Aa.out 0;have hfz11_1:=qg Aa.out 1;have hfz11_2:=qg Aa.out 2;have hfz11_3:=qg Aa.out 3;have hfz11_4:=qg Aa.out 4;have hfz11_5:=qg Aa.out 5;go_wp2
      go_meet
      case rel=>exact⟨_,(true),(by first|rfl|(simp;done)|(simp [*];done)),H',⟨by first|omega|exact Nat.le_refl _⟩,⟨by(with_reducible repeat(first|refine qp ?_ _|refine qu ?_|refine qo ?_ _));exact Aa.out⟩,⟨by repeat(first|(with_reducible first|exact HB.out|apply qd|apply qa|apply qc|refine qh ?_ Ac.out)|exact HB.out)⟩⟩
     ·rw [if_neg Bp] at H
      have AQ : decide (4294967296<a0_1)=false:=decide_eq_false Bp;clear Bp;by_cases Bq : a0_2<0
      ·rw [if_pos Bq] at H
       have AR : decide (a0_2<0)=true:=decide_eq_true Bq;clear Bq;have H':=qb.mk H;clear H;have Ap : w3.cell? ⟨Ab,0,none⟩=some (.int .i64 a0_0):=(qe Aa.out 0).trans rfl;have Aq : w3.cell? ⟨Ab,1,none⟩=some (.int .i64 a0_1):=(qe Aa.out 1).trans rfl;have Ar : w3.cell? ⟨Ab,2,none⟩=some (.int .i64 a0_2):=(qe Aa.out 2).trans rfl;have As : w3.cell? ⟨Ab,3,none⟩=some (.bool a0_3):=(qe Aa.out 3).trans rfl;have At : w3.cell? ⟨Ab,4,none⟩=some (.string a0_4):=(qe Aa.out 4).trans rfl;have Au : w3.cell? ⟨Ab,5,none⟩=some (.int .i64 a0_5):=(qe Aa.out 5).trans rfl;have hfz13_0:=qg Aa.out 0;have hfz13_1:=qg Aa.out 1;have hfz13_2:=qg Aa.out 2;have hfz13_3:=qg Aa.out 3;have hfz13_4:=qg Aa.out 4;have hfz13_5:=qg Aa.out 5;go_wp2
       go_meet
       case rel=>exact⟨_,(true),(by first|rfl|(simp;done)|(simp [*];done)),H',⟨by first|omega|exact Nat.le_refl _⟩,⟨by(with_reducible repeat(first|refine qp ?_ _|refine qu ?_|refine qo ?_ _));exact Aa.out⟩,⟨by repeat(first|(with_reducible first|exact HB.out|apply qd|apply qa|apply qc|refine qh ?_ Ac.out)|exact HB.out)⟩⟩
      ·rw [if_neg Bq] at H
       have AR : decide (a0_2<0)=false:=decide_eq_false Bq;clear Bq;by_cases Br : a0_2 > 17
       ·rw [if_pos Br] at H
        have AU : decide (17<a0_2)=true:=decide_eq_true Br;clear Br;have H':=qb.mk H;clear H;have Av : w3.cell? ⟨Ab,0,none⟩=some (.int .i64 a0_0):=(qe Aa.out 0).trans rfl;have Aw : w3.cell? ⟨Ab,1,none⟩=some (.int .i64 a0_1):=(qe Aa.out 1).trans rfl;have Ax : w3.cell? ⟨Ab,2,none⟩=some (.int .i64 a0_2):=(qe Aa.out 2).trans rfl;have Ay : w3.cell? ⟨Ab,3,none⟩=some (.bool a0_3):=(qe Aa.out 3).trans rfl;have Az : w3.cell? ⟨Ab,4,none⟩=some (.string a0_4):=(qe Aa.out 4).trans rfl;have AA : w3.cell? ⟨Ab,5,none⟩=some (.int .i64 a0_5):=(qe Aa.out 5).trans rfl;have hfz15_0:=qg Aa.out 0;have hfz15_1:=qg Aa.out 1;have hfz15_2:=qg Aa.out 2;have hfz15_3:=qg Aa.out 3;have hfz15_4:=qg Aa.out 4;have hfz15_5:=qg Aa.out 5;go_wp2
        go_meet
        case rel=>exact⟨_,(true),(by first|rfl|(simp;done)|(simp [*];done)),H',⟨by first|omega|exact Nat.le_refl _⟩,⟨by(with_reducible repeat(first|refine qp ?_ _|refine qu ?_|refine qo ?_ _));exact Aa.out⟩,⟨by repeat(first|(with_reducible first|exact HB.out|apply qd|apply qa|apply qc|refine qh ?_ Ac.out)|exact HB.out)⟩⟩
       ·rw [if_neg Br] at H
        have AU : decide (17<a0_2)=false:=decide_eq_false Br;clear Br;by_cases Bs : a0_5<0
        ·rw [if_pos Bs] at H
         have AV : decide (a0_5<0)=true:=decide_eq_true Bs;clear Bs;have H':=qb.mk H;clear H;have AB : w3.cell? ⟨Ab,0,none⟩=some (.int .i64 a0_0):=(qe Aa.out 0).trans rfl;have AC : w3.cell? ⟨Ab,1,none⟩=some (.int .i64 a0_1):=(qe Aa.out 1).trans rfl;have AD : w3.cell? ⟨Ab,2,none⟩=some (.int .i64 a0_2):=(qe Aa.out 2).trans rfl;have AE : w3.cell? ⟨Ab,3,none⟩=some (.bool a0_3):=(qe Aa.out 3).trans rfl;have AF : w3.cell? ⟨Ab,4,none⟩=some (.string a0_4):=(qe Aa.out 4).trans rfl;have AG : w3.cell? ⟨Ab,5,none⟩=some (.int .i64 a0_5):=(qe Aa.out 5).trans rfl;have hfz17_0:=qg Aa.out 0;have hfz17_1:=qg Aa.out 1;have hfz17_2:=qg Aa.out 2;have hfz17_3:=qg Aa.out 3;have hfz17_4:=qg Aa.out 4;have hfz17_5:=qg Aa.out 5;go_wp2
         go_meet
         case rel=>exact⟨_,(true),(by first|rfl|(simp;done)|(simp [*];done)),H',⟨by first|omega|exact Nat.le_refl _⟩,⟨by(with_reducible repeat(first|refine qp ?_ _|refine qu ?_|refine qo ?_ _));exact Aa.out⟩,⟨by repeat(first|(with_reducible first|exact HB.out|apply qd|apply qa|apply qc|refine qh ?_ Ac.out)|exact HB.out)⟩⟩
        ·rw [if_neg Bs] at H
         have AV : decide (a0_5<0)=false:=decide_eq_false Bs;clear Bs;have H':=qb.mk H;clear H;have AH : w3.cell? ⟨Ab,0,none⟩=some (.int .i64 a0_0):=(qe Aa.out 0).trans rfl;have AJ : w3.cell? ⟨Ab,1,none⟩=some (.int .i64 a0_1):=(qe Aa.out 1).trans rfl;have AK : w3.cell? ⟨Ab,2,none⟩=some (.int .i64 a0_2):=(qe Aa.out 2).trans rfl;have AL : w3.cell? ⟨Ab,3,none⟩=some (.bool a0_3):=(qe Aa.out 3).trans rfl;have AM : w3.cell? ⟨Ab,4,none⟩=some (.string a0_4):=(qe Aa.out 4).trans rfl;have AP : w3.cell? ⟨Ab,5,none⟩=some (.int .i64 a0_5):=(qe Aa.out 5).trans rfl;have hfz18_0:=qg Aa.out 0;have hfz18_1:=qg Aa.out 1;have hfz18_2:=qg Aa.out 2;have hfz18_3:=qg Aa.out 3;have hfz18_4:=qg Aa.out 4;have hfz18_5:=qg Aa.out 5;go_wp2
         go_meet
         case rel=>exact⟨_,(decide (a0_5 > 4294967296)),(by first|rfl|(simp;done)|(simp [*];done)),H',⟨by first|omega|exact Nat.le_refl _⟩,⟨by(with_reducible repeat(first|refine qp ?_ _|refine qu ?_|refine qo ?_ _));exact Aa.out⟩,⟨by repeat(first|(with_reducible first|exact HB.out|apply qd|apply qa|apply qc|refine qh ?_ Ac.out)|exact HB.out)⟩⟩
 case rest=>
  clear HC2;try clear c1
  try clear p2
  try clear c4
  try clear Af
  try clear c6
  try clear c6b0
  try clear c8
  try clear c8b0
  try clear Bp
  try clear AQ
  try clear Bq
  try clear AR
  try clear Br
  try clear AU
  try clear Bs
  try clear AV
  try clear Ah
  try clear Ai
  try clear Aj
  try clear Ak
  try clear Am
  try clear Ao
  try clear Ap
  try clear Aq
  try clear Ar
  try clear As
  try clear At
  try clear Au
  try clear Av
  try clear Aw
  try clear Ax
  try clear Ay
  try clear Az
  try clear AA
  try clear AB
  try clear AC
  try clear AD
  try clear AE
  try clear AF
  try clear AG
  try clear AH
  try clear AJ
  try clear AK
  try clear AL
  try clear AM
  try clear AP
  try clear AW
  try clear AX
  try clear AY
  try clear AZ
  try clear Ba
  try clear Bb
  try clear Bc
  try clear Bd
  try clear Be
  try clear Bf
  try clear Bg
  try clear Bh
  try clear Bi
  try clear Bj
  try clear Bk
  try clear Bm
  try clear Bn
  try clear Bo
  try clear hfz11_0
  try clear hfz11_1
  try clear hfz11_2
  try clear hfz11_3
  try clear hfz11_4
  try clear hfz11_5
  try clear hfz13_0
  try clear hfz13_1
  try clear hfz13_2
  try clear hfz13_3
  try clear hfz13_4
  try clear hfz13_5
  try clear hfz15_0
  try clear hfz15_1
  try clear hfz15_2
  try clear hfz15_3
  try clear hfz15_4
  try clear hfz15_5
  try clear hfz17_0
  try clear hfz17_1
  try clear hfz17_2
  try clear hfz17_3
  try clear hfz17_4
  try clear hfz17_5
  try clear hfz18_0
  try clear hfz18_1
  try clear hfz18_2
  try clear hfz18_3
  try clear hfz18_4
  try clear hfz18_5
  try clear hfz5_0
  try clear hfz5_1
  try clear hfz5_2
  try clear hfz5_3
  try clear hfz5_4
  try clear hfz5_5
  try clear hfz7_0
  try clear hfz7_1
  try clear hfz7_2
  try clear hfz7_3
  try clear hfz7_4
  try clear hfz7_5
  try clear hfz9_0
  try clear hfz9_1
  try clear hfz9_2
  try clear hfz9_3
  try clear hfz9_4
  try clear hfz9_5
  obtain⟨kq,Ad,rfl,HA,HJ1,Aa,HB⟩:=hcut
  cases kq with
  | zero=>exact absurd HA.out (by simp [qF.j0])
  | succ kj1=>
   have H:=HA.out;clear HA;simp only [qF.j0] at H;by_cases c19 : Ad=true
   ·subst c19
    have H1 : (some 6)=some r:=by rw [if_pos rfl] at H;exact H
    clear H;have H:=H1;clear H1;obtain rfl:=Option.some.inj H;go_wp2
    go_ret
    exact⟨by first|rfl|(simp [qK,qL] <;> rfl)|(simp [*,qK,qL] <;> rfl),by repeat(first|(with_reducible first|exact HB.out|apply qd|apply qa|apply qc|refine qh ?_ Ac.out)|exact HB.out)⟩
   ·replace c19:=Bool.eq_false_iff.mpr c19
    subst c19;have H1 : ((qv.f kj1 a0_4).bind fun Ae=>(if Ae=true then(some 0) else(some 7)))=some r:=by rw [if_neg (show ¬ (false=true) by decide)] at H;exact H
    clear H;have H:=H1;clear H1;replace H:=Option.bind_eq_some_iff.mp H;obtain⟨Ae,A200,H⟩:=H;replace H : (if Ae=true then(some 0) else(some 7))=some r:=H;have A20:=qb.mk A200;clear A200;by_cases c21 : Ae=true
    ·subst c21
     have H1 : (some 0)=some r:=by rw [if_pos rfl] at H;exact H
     clear H;have H:=H1;clear H1;obtain rfl:=Option.some.inj H;have hcz22_0 : wc.cell? ⟨Ab,0,none⟩=some (.int .i64 a0_0):=(qe Aa.out 0).trans rfl;have hcz22_1 : wc.cell? ⟨Ab,1,none⟩=some (.int .i64 a0_1):=(qe Aa.out 1).trans rfl;have hcz22_2 : wc.cell? ⟨Ab,2,none⟩=some (.int .i64 a0_2):=(qe Aa.out 2).trans rfl;have hcz22_3 : wc.cell? ⟨Ab,3,none⟩=some (.bool a0_3):=(qe Aa.out 3).trans rfl;have hcz22_4 : wc.cell? ⟨Ab,4,none⟩=some (.string a0_4):=(qe Aa.out 4).trans rfl;have hcz22_5 : wc.cell? ⟨Ab,5,none⟩=some (.int .i64 a0_5):=(qe Aa.out 5).trans rfl;have hfz22_0:=qg Aa.out 0;have hfz22_1:=qg Aa.out 1;have hfz22_2:=qg Aa.out 2;have hfz22_3:=qg Aa.out 3;have hfz22_4:=qg Aa.out 4;have hfz22_5:=qg Aa.out 5;go_wp2_with (first|((with_reducible refine vR (f:=24) rfl ?_);refine zx (some 43) rfl rfl Tryd.func24 (by kernel_rfl) rfl #[.string a0_4] rfl (by(try simp only [List.map_toArray,List.map_cons,List.map_nil]);first|done|rfl|(simp only [List.length_drop,List.length_take];rfl)) ?_;(with_reducible refine(qv.calls kj1 a0_4 true _ A20.out).mono ?_);rintro e w' ⟨rfl,⟨nd,rfl⟩⟩;refine⟨_,rfl,?_⟩))
     go_ret
     exact⟨by first|rfl|(simp [qK,qL] <;> rfl)|(simp [*,qK,qL] <;> rfl),by repeat(first|(with_reducible first|exact HB.out|apply qd|apply qa|apply qc|refine qh ?_ Ac.out)|exact HB.out)⟩
    ·replace c21:=Bool.eq_false_iff.mpr c21
     subst c21;have H1 : (some 7)=some r:=by rw [if_neg (show ¬ (false=true) by decide)] at H;exact H
     clear H;have H:=H1;clear H1;obtain rfl:=Option.some.inj H;have hcz23_0 : wc.cell? ⟨Ab,0,none⟩=some (.int .i64 a0_0):=(qe Aa.out 0).trans rfl;have hcz23_1 : wc.cell? ⟨Ab,1,none⟩=some (.int .i64 a0_1):=(qe Aa.out 1).trans rfl;have hcz23_2 : wc.cell? ⟨Ab,2,none⟩=some (.int .i64 a0_2):=(qe Aa.out 2).trans rfl;have hcz23_3 : wc.cell? ⟨Ab,3,none⟩=some (.bool a0_3):=(qe Aa.out 3).trans rfl;have hcz23_4 : wc.cell? ⟨Ab,4,none⟩=some (.string a0_4):=(qe Aa.out 4).trans rfl;have hcz23_5 : wc.cell? ⟨Ab,5,none⟩=some (.int .i64 a0_5):=(qe Aa.out 5).trans rfl;have hfz23_0:=qg Aa.out 0;have hfz23_1:=qg Aa.out 1;have hfz23_2:=qg Aa.out 2;have hfz23_3:=qg Aa.out 3;have hfz23_4:=qg Aa.out 4;have hfz23_5:=qg Aa.out 5;go_wp2_with (first|((with_reducible refine vR (f:=24) rfl ?_);refine zx (some 43) rfl rfl Tryd.func24 (by kernel_rfl) rfl #[.string a0_4] rfl (by(try simp only [List.map_toArray,List.map_cons,List.map_nil]);first|done|rfl|(simp only [List.length_drop,List.length_take];rfl)) ?_;(with_reducible refine(qv.calls kj1 a0_4 false _ A20.out).mono ?_);rintro e w' ⟨rfl,⟨nd,rfl⟩⟩;refine⟨_,rfl,?_⟩))
     go_ret
     exact⟨by first|rfl|(simp [qK,qL] <;> rfl)|(simp [*,qK,qL] <;> rfl),by repeat(first|(with_reducible first|exact HB.out|apply qd|apply qa|apply qc|refine qh ?_ Ac.out)|exact HB.out)⟩
end Go.Proofs.YtalpmbeddldfoaaDoor.PA
