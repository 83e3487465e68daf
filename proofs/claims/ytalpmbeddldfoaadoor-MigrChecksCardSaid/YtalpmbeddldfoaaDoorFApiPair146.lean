import Derived.Test.YtalpmbeddldfoaaDoorF0
import Derived.Test.YtalpmbeddldfoaaDoorHandB
import Derived.Test.YtalpmbeddldfoaaDoorHandS
namespace Go.Proofs.YtalpmbeddldfoaaDoor.PA
open Go.RowKit Go.Proofs.YtalpmbeddldfoaaDoor.Hand Go.Proofs.YtalpmbeddldfoaaDoorW.PrintWords Go.Proofs.YtalpmbeddldfoaaDoorW.PrintLast Go.Proofs.YtalpmbeddldfoaaDoorW.PrintMore
attribute [local go_sem] vW vV zc zb vG vF vU vT
attribute [local go_sem high] za zd ze
set_option linter.unusedVariables false
set_option linter.unusedSimpArgs false
theorem cmpS_neg(a b : ByteArray) : (VH a b<0)=(Op.bytesLess a.toList b.toList=true):=by
 unfold VH;apply propext
 split
 ·simp [*]
 ·split <;> simp [*]
theorem cmpS_zero(a b : ByteArray) : (VH a b == 0)=(a.toList == b.toList):=by
 unfold VH;have h1:=jb a.toList b.toList;have h2:=jb b.toList a.toList;by_cases e : a.toList=b.toList
 ·rw [e] at h1 ⊢
  simp at h1
  simp [h1]
 ·have e1 : (a.toList == b.toList)=false:=by simpa using e
  have e2 : (b.toList == a.toList)=false:=by simpa using fun h=>e h.symm
  rw [e1] at h1 ⊢;rw [e2] at h2;simp only [Bool.or_false] at h1 h2;by_cases h : Op.bytesLess a.toList b.toList=true
  ·simp [h]
  ·have h' : Op.bytesLess b.toList a.toList=true:=by rw [h2];simpa using h
   simp [h,h']
set_option maxHeartbeats 4000000 in
theorem QD(x : vP)(b0 b1 : ByteArray)(b2 : Int)(w : World) :
 Calls Tryd.prog 147 #[.agg #[.string x.f0,.string x.f1,.int .i64 x.f2],.agg #[.string b0,.string b1,.int .i64 b2]] w
  fun e w'=>e = .returned (.int .i64 (VH x.f0 b0))∧Below w.heap.size w w':=by
 unfold VH;by_cases h : Op.bytesLess x.f0.toList b0.toList=true
 ·rw [if_pos h]
  go_enter Tryd.func147,Tryd.ntmps147
  go_wp2
  all_goals(go_ret;exact⟨rfl,((Below.refl w.heap.size w).alloc (Nat.le_refl _) _).alloc (by simp) _⟩)
 ·have h' : Op.bytesLess x.f0.toList b0.toList=false:=by simpa using h
  rw [if_neg h];clear h;by_cases g : Op.bytesLess b0.toList x.f0.toList=true
  ·rw [if_pos g]
   go_enter Tryd.func147,Tryd.ntmps147
   go_wp2
   all_goals(go_ret;exact⟨rfl,((Below.refl w.heap.size w).alloc (Nat.le_refl _) _).alloc (by simp) _⟩)
  ·have g' : Op.bytesLess b0.toList x.f0.toList=false:=by simpa using g
   rw [if_neg g];clear g;go_enter Tryd.func147,Tryd.ntmps147
   go_wp2
   all_goals(go_ret;exact⟨rfl,((Below.refl w.heap.size w).alloc (Nat.le_refl _) _).alloc (by simp) _⟩)
def vN.l0 : Nat→List (vP)→Int→Int→ByteArray→ByteArray→Int→Option (Int × Bool)
 | 0,_,_,_,_,_,_=>none
 | k + 1,x0,x6,x7,Aa,Ab,Ac=>if x6<x7 then(if 0≤(wrap64 ((IntKind.u64.wrap (wrap64 (x6 + x7))) / 2)) then(if(wrap64 ((IntKind.u64.wrap (wrap64 (x6 + x7))) / 2))<(x0.length : Int) then(if(Op.bytesLess (((qj x0 (wrap64 ((IntKind.u64.wrap (wrap64 (x6 + x7))) / 2))).f0).toList) Aa.toList)=true then(vN.l0 k x0 (wrap64 ((wrap64 ((IntKind.u64.wrap (wrap64 (x6 + x7))) / 2)) + 1)) x7 Aa Ab Ac) else(vN.l0 k x0 x6 (wrap64 ((IntKind.u64.wrap (wrap64 (x6 + x7))) / 2)) Aa Ab Ac)) else(none)) else(none)) else(if x6<(x0.length : Int) then(if 0≤x6 then(some (x6,(((qj x0 x6).f0).toList == Aa.toList))) else(none)) else(some (x6,false)))
def vN.f(k : Nat)(l0 : List (vP))(a1_0 : ByteArray)(a1_1 : ByteArray)(a1_2 : Int) : Option (Int × Bool):=vN.l0 k l0 0 (l0.length : Int) a1_0 a1_1 a1_2
theorem vN.mono_l : ∀ k,(∀ y0 y1 y2 y3 y4 y5,qR (vN.l0 k y0 y1 y2 y3 y4 y5) (vN.l0 (k + 1) y0 y1 y2 y3 y4 y5))
 | 0=>fun _ _ _ _ _ _ r h=>by simp [vN.l0] at h
 | k + 1=>by
  have ih0:=vN.mono_l k
  ·intro y0 y1 y2 y3 y4 y5
   unfold vN.l0
   repeat' first
   | (with_reducible exact ih0 _ _ _ _ _ _)
   | (with_reducible exact qR.refl _)
   | (with_reducible exact qR.none _)
   | (with_reducible refine qR.ite ?_ ?_)
   | (with_reducible refine qR.bind ?_ (fun _=>?_))
   | exact ih0 _ _ _ _ _ _
   | exact qR.none _
   | refine qR.ite ?_ ?_
   | refine qR.bind ?_ (fun _=>?_)
theorem vN.mono : ∀ a0 a1 a2 a3 k,qR (vN.f k a0 a1 a2 a3) (vN.f (k + 1) a0 a1 a2 a3):=by
 intro a0 a1 a2 a3 k;have ih0:=vN.mono_l k;unfold vN.f
 repeat' first
  | (with_reducible exact ih0 _ _ _ _ _ _)
  | (with_reducible exact qR.refl _)
  | (with_reducible exact qR.none _)
  | (with_reducible refine qR.ite ?_ ?_)
  | (with_reducible refine qR.bind ?_ (fun _=>?_))
  | exact ih0 _ _ _ _ _ _
  | exact qR.none _
  | refine qR.ite ?_ ?_
  | refine qR.bind ?_ (fun _=>?_)
set_option maxHeartbeats 8000000 in
set_option maxRecDepth 100000 in
theorem vN.calls(k : Nat)(A0 : Option Addr)(c0 : Nat)(l0 : List (vP))(a1_0 : ByteArray)(a1_1 : ByteArray)(a1_2 : Int)(r1 : Int)(r2 : Bool)(w : World)(hr0 : Kd.C zM w A0 l0.length l0)(hc0 : l0.length≤c0)(h : vN.f k l0 a1_0 a1_1 a1_2=some (r1,r2)) :
 Calls Tryd.prog 146 #[.slice A0 l0.length c0,.agg #[.string a1_0,.string a1_1,.int .i64 a1_2],.func (.func 147) #[] #[]] w fun e w'=>e = .returned (.tuple #[.int .i64 r1,.bool r2])∧Below w.heap.size w w':=by
 have e : ∀ k i j,vN.l0 k l0 i j a1_0 a1_1 a1_2=bs (l0.length : Int) (fun i=>VH (qj l0 i).f0 a1_0) k i j:=by
  intro k
  induction k with
  | zero=>intro i j;rfl
  | succ k ih=>intro i j;simp only [vN.l0,bs,cmpS_neg,cmpS_zero,ih]
 have h':=(e k 0 (l0.length : Int)).symm.trans h;clear e h;have HR0:=qb.mk hr0;have HC0:=qb.mk hc0;clear hr0 hc0;obtain⟨wb,hwb⟩ : ∃ wb,wb=w.alloc (.cells #[.string a1_0,.string a1_1,.int .i64 a1_2] 50):=⟨_,rfl⟩;have HW:=qb.mk hwb;have HS:=qb.mk (show Below w.heap.size w wb from by rw [hwb];exact(Below.refl _ _).alloc (Nat.le_refl _) _);have HZ:=qb.mk (show w.heap.size<wb.heap.size from by rw [hwb];simp)
 have HX:=qb.mk (show ∀ W,Below wb.heap.size wb W→W.cell? ⟨w.heap.size,0,none⟩=some (.string a1_0)∧W.cell? ⟨w.heap.size,1,none⟩=some (.string a1_1)∧W.cell? ⟨w.heap.size,2,none⟩=some (.int .i64 a1_2) from by
  rw [hwb];exact fun W hb=>⟨zB hb 0 _ rfl,zB hb 1 _ rfl,zB hb 2 _ rfl⟩)
 clear hwb;have H':=qb.mk h';clear h';go_enter Tryd.func146,Tryd.ntmps146
 go_wp2
 rw [← HW.out];have HB:=qb.mk (Below.refl wb.heap.size wb);go_loopg [9,10] k (fun kq v6 v7 w'=>∃ (i : Int) (j : Int),v6 = .int .i64 i∧v7 = .int .i64 j∧qb (bs (l0.length : Int) (fun i=>VH (qj l0 i).f0 a1_0) kq i j=some (r1,r2))∧qb (kq≤k)∧qb (Below wb.heap.size wb w'))
 case atStart=>exact⟨0,(l0.length : Int),(by first|rfl|(simp;done)|(simp [*];done)),(by first|rfl|(simp;done)|(simp [*];done)),H',⟨Nat.le_refl _⟩,⟨HB.out⟩⟩
 case round=>
  clear H' HB;obtain⟨i,j,rfl,rfl,HA,HK1,HB⟩:=hrel
  cases gk with
  | zero=>exact absurd HA.out (by simp [bs])
  | succ k1=>
   have H:=HA.out;clear HA;simp only [bs] at H;by_cases c3 : i<j
   ·rw [if_pos c3] at H
    have c3b0 : decide (i<j)=true:=decide_eq_true c3;clear c3;obtain⟨q,hq⟩ : ∃ j_ : Int,(wrap64 ((IntKind.u64.wrap (wrap64 (i + j))) / 2))=j_:=⟨_,rfl⟩;rw [hq] at H;have hqw : (IntKind.i64.wrap ((IntKind.u64.wrap (wrap64 (i + j))) / 2))=q:=(qm _).trans hq;by_cases c5 : 0≤q
    ·rw [if_pos c5] at H
     by_cases c6 : q<(l0.length : Int)
     ·rw [if_pos c6] at H
      obtain⟨ad,e,Ad,Ae,Af⟩:=vY HR0.out q c5 c6
      cases e
      have HB2:=qb.mk (HS.out.trans (HB.out.mono (Nat.le_of_lt HZ.out)));replace Ad:=(HB2.out.cell (World.block_lt_of_cell? w _ Ad)).trans Ad;replace Ae:=(HB2.out.cell (World.block_lt_of_cell? w _ Ae)).trans Ae;replace Af:=(HB2.out.cell (World.block_lt_of_cell? w _ Af)).trans Af;clear HB2;obtain⟨hy0,hy1,hy2⟩:=HX.out _ HB.out;have c5b0 : decide (0≤q)=true:=decide_eq_true c5;have c6b0 : decide (q<(l0.length : Int))=true:=decide_eq_true c6;replace c5:=eq_true c5;replace c6:=eq_true c6;by_cases c7 : VH (qj l0 q).f0 a1_0<0
      ·rw [if_pos c7] at H
       have c7b0 : decide (VH (qj l0 q).f0 a1_0<0)=true:=decide_eq_true c7;clear c7;have H':=qb.mk H;clear H;go_wp2
       go_still_tail 6,(by kernel_rfl)
       change wpList _ _ _ _ _ wr.drew
       have HBd:=qb.mk (qc HB.out);go_wp2_with (go_at_call 147;(refine(QD (qj l0 q) a1_0 a1_1 a1_2 _).mono ?_);rintro e w2 ⟨rfl,hb2⟩;replace HB:=qb.mk (qB HBd.out hb2);clear hb2)
       go_roundg k1
       case measure=>have:=HK1.out;omega
       case rel=>exact⟨(wrap64 (q + 1)),j,(by first|rfl|(simp;done)|(simp [*];done)),(by first|rfl|(simp;done)|(simp [*];done)),H',⟨by have:=HK1.out;omega⟩,⟨HB.out⟩⟩
      ·rw [if_neg c7] at H
       have c7b0 : decide (VH (qj l0 q).f0 a1_0<0)=false:=decide_eq_false c7;clear c7;have H':=qb.mk H;clear H;go_wp2
       go_still_tail 6,(by kernel_rfl)
       change wpList _ _ _ _ _ wr.drew
       have HBd:=qb.mk (qc HB.out);go_wp2_with (go_at_call 147;(refine(QD (qj l0 q) a1_0 a1_1 a1_2 _).mono ?_);rintro e w2 ⟨rfl,hb2⟩;replace HB:=qb.mk (qB HBd.out hb2);clear hb2)
       go_roundg k1
       case measure=>have:=HK1.out;omega
       case rel=>exact⟨i,q,(by first|rfl|(simp;done)|(simp [*];done)),(by first|rfl|(simp;done)|(simp only [← hq] <;> (first|rfl|simp))|(simp [*];done)),H',⟨by have:=HK1.out;omega⟩,⟨HB.out⟩⟩
     ·rw [if_neg c6] at H
      exact absurd H (by simp)
    ·rw [if_neg c5] at H
     exact absurd H (by simp)
   ·rw [if_neg c3] at H
    have c3b0 : decide (i<j)=false:=decide_eq_false c3;clear c3;by_cases c6 : i<(l0.length : Int)
    ·rw [if_pos c6] at H
     by_cases c5 : 0≤i
     ·rw [if_pos c5] at H
      simp only [Option.some.injEq,Prod.mk.injEq] at H;obtain⟨rfl,rfl⟩:=H;obtain⟨ad,e,Ad,Ae,Af⟩:=vY HR0.out i c5 c6
      cases e
      have HB2:=qb.mk (HS.out.trans (HB.out.mono (Nat.le_of_lt HZ.out)));replace Ad:=(HB2.out.cell (World.block_lt_of_cell? w _ Ad)).trans Ad;replace Ae:=(HB2.out.cell (World.block_lt_of_cell? w _ Ae)).trans Ae;replace Af:=(HB2.out.cell (World.block_lt_of_cell? w _ Af)).trans Af;clear HB2;obtain⟨hy0,hy1,hy2⟩:=HX.out _ HB.out;have c5b0 : decide (0≤i)=true:=decide_eq_true c5;have c6b0 : decide (i<(l0.length : Int))=true:=decide_eq_true c6;replace c5:=eq_true c5;replace c6:=eq_true c6
      have HQ:=qb.mk (show ∀ W,Below wb.heap.size wb W→Below wb.heap.size wb W∧W.cell? (ad.add (i.toNat * 3))=some (.string (qj l0 i).f0)∧W.cell? ⟨(ad.add (i.toNat * 3)).block,(ad.add (i.toNat * 3)).off + 1,none⟩=some (.string (qj l0 i).f1)∧W.cell? ⟨(ad.add (i.toNat * 3)).block,(ad.add (i.toNat * 3)).off + 2,none⟩=some (.int .i64 (qj l0 i).f2)∧W.cell? ⟨w.heap.size,0,none⟩=some (.string a1_0)∧W.cell? ⟨w.heap.size,1,none⟩=some (.string a1_1)∧W.cell? ⟨w.heap.size,2,none⟩=some (.int .i64 a1_2) from by
       intro W hb;obtain⟨ad2,e2,hz0,hz1,hz2⟩:=vY HR0.out i (of_eq_true c5) (of_eq_true c6)
       cases e2
       have hB2:=HS.out.trans (hb.mono (Nat.le_of_lt HZ.out));exact⟨hb,(hB2.cell (World.block_lt_of_cell? w _ hz0)).trans hz0,(hB2.cell (World.block_lt_of_cell? w _ hz1)).trans hz1,(hB2.cell (World.block_lt_of_cell? w _ hz2)).trans hz2,HX.out W hb⟩)
      clear HW HX HR0 HC0 HK1;go_wp2
      go_region_held3 (fun W=>Below wb.heap.size wb W∧W.cell? (ad.add (i.toNat * 3))=some (.string (qj l0 i).f0)∧W.cell? ⟨(ad.add (i.toNat * 3)).block,(ad.add (i.toNat * 3)).off + 1,none⟩=some (.string (qj l0 i).f1)∧W.cell? ⟨(ad.add (i.toNat * 3)).block,(ad.add (i.toNat * 3)).off + 2,none⟩=some (.int .i64 (qj l0 i).f2)∧W.cell? ⟨w.heap.size,0,none⟩=some (.string a1_0)∧W.cell? ⟨w.heap.size,1,none⟩=some (.string a1_1)∧W.cell? ⟨w.heap.size,2,none⟩=some (.int .i64 a1_2))
       (first|exact HQ.out _ (by assumption)|exact HQ.out _ (qc (by assumption))|exact HQ.out _ (qc HB.out)|exact HQ.out _ (qB (qc HB.out) hb2))
       (first|(go_at_call 147;(refine(QD (qj l0 i) a1_0 a1_1 a1_2 _).mono ?_);rintro e w2 ⟨rfl,hb2⟩))
      go_wp2
      go_ret2
      exact⟨by first|rfl|(simp;done),HS.out.trans ((qB (qc HB.out) hb2).mono (Nat.le_of_lt HZ.out))⟩
     ·rw [if_neg c5] at H
      exact absurd H (by simp)
    ·rw [if_neg c6] at H
     have c6b0 : decide (i<(l0.length : Int))=false:=decide_eq_false c6;clear c6;simp only [Option.some.injEq,Prod.mk.injEq] at H;obtain⟨rfl,rfl⟩:=H;clear HW HX HR0 HC0 HK1;go_wp2
     go_quiet (fail)
     go_wp2
     go_ret2
     exact⟨by first|rfl|(simp;done),HS.out.trans ((HB.out.mono (Nat.le_of_lt HZ.out)).trans ⟨rfl,rfl,rfl,Nat.le_refl _,fun _ _=>rfl⟩)⟩
end Go.Proofs.YtalpmbeddldfoaaDoor.PA
