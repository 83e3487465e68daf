import Derived.Test.YtalpmbeddldfoaaDoorF0
import Derived.Test.YtalpmbeddldfoaaDoorFApiPair87
namespace Go.Proofs.YtalpmbeddldfoaaDoor.PA
open Go.RowKit Go.Proofs.YtalpmbeddldfoaaDoor.Hand Go.Proofs.YtalpmbeddldfoaaDoorW.PrintWords Go.Proofs.YtalpmbeddldfoaaDoorW.PrintLast Go.Proofs.YtalpmbeddldfoaaDoorW.PrintMore
attribute [local go_sem] vW vV zc zb vG vF vU vT
attribute [local go_sem high] za zd ze
set_option linter.unusedVariables false
set_option linter.unusedSimpArgs false
def vH.l0 : Nat→List (vP)→Int→Int→Option ((List (vP)))
 | 0,_,_,_=>none
 | k + 1,x3,x8,x9=>if x9<x8 then(if 0≤x9 then(if x9<(x3.length : Int) then(vH.l0 k (x3.set (x9 : Int).toNat (⟨(qj x3 x9).f0,(qj x3 x9).f1,0⟩ : vP)) x8 (wrap64 (x9 + 1))) else(none)) else(none)) else(some x3)
def vH.f(k : Nat)(l0 : List (vP)) : Option ((List (vP))):=(zH.f l0).bind fun Ac=>(vH.l0 k Ac (Ac.length : Int) 0)
theorem vH.mono_l : ∀ k,(∀ y0 y1 y2,qR (vH.l0 k y0 y1 y2) (vH.l0 (k + 1) y0 y1 y2))
 | 0=>fun _ _ _ r h=>by simp [vH.l0] at h
 | k + 1=>by
  have ih0:=vH.mono_l k
  ·intro y0 y1 y2
   unfold vH.l0
   repeat' first
   | (with_reducible exact ih0 _ _ _)
   | (with_reducible exact qR.refl _)
   | (with_reducible exact qR.none _)
   | (with_reducible refine qR.ite ?_ ?_)
   | (with_reducible refine qR.bind ?_ (fun _=>?_))
   | exact ih0 _ _ _
   | exact qR.none _
   | refine qR.ite ?_ ?_
   | refine qR.bind ?_ (fun _=>?_)
theorem vH.mono : ∀ a0 k,qR (vH.f k a0) (vH.f (k + 1) a0):=by
 intro a0 k;have ih0:=vH.mono_l k;unfold vH.f
 repeat' first
  | (with_reducible exact ih0 _ _ _)
  | (with_reducible exact qR.refl _)
  | (with_reducible exact qR.none _)
  | (with_reducible refine qR.ite ?_ ?_)
  | (with_reducible refine qR.bind ?_ (fun _=>?_))
  | exact ih0 _ _ _
  | exact qR.none _
  | refine qR.ite ?_ ?_
  | refine qR.bind ?_ (fun _=>?_)
set_option maxHeartbeats 8000000 in
set_option maxRecDepth 100000 in
theorem vH.calls(k : Nat)(A0 : Option Addr)(c0 : Nat)(l0 : List (vP))(r : List (vP))(w : World)(hr0 : Kd.C zM w A0 l0.length l0)(hc0 : l0.length≤c0)(h : vH.f k l0=some r) :
 Calls Tryd.prog 54 #[.slice A0 l0.length c0] w fun e w'=>∃ v0_ : Value,e = .returned (v0_)∧Kd.R zM 50 w' w.heap.size (fun _=>True) v0_ r∧Below w.heap.size w w':=by
 have HR0:=qb.mk hr0;have HC0:=qb.mk hc0;clear hr0 hc0;have HB:=qb.mk (Below.refl w.heap.size w);have H : ((zH.f l0).bind fun Ac=>(vH.l0 k Ac (Ac.length : Int) 0))=some r:=h;clear h;replace H:=Option.bind_eq_some_iff.mp H;obtain⟨Ac,A20,H⟩:=H;replace H : (vH.l0 k Ac (Ac.length : Int) 0)=some r:=H;have A2:=qb.mk A20;clear A20;have H':=qb.mk H;clear H;go_enter Tryd.func54,Tryd.ntmps54
 go_wp2_with (first|((with_reducible refine vR (f:=87) rfl ?_);refine zx (some 6) rfl rfl Tryd.func87 (by kernel_rfl) rfl #[.slice A0 l0.length c0] rfl (by(try simp only [List.map_toArray,List.map_cons,List.map_nil]);first|done|rfl|(simp only [List.length_drop,List.length_take];rfl)) ?_;(with_reducible refine(zH.calls _ _ l0 Ac _ ?side1 ?side2 A2.out).mono ?_);(case side1=>repeat(first|exact HR0.out|(with_reducible refine Kd.qS ?_ _)|(with_reducible refine Kd.qU ?_ _)|(with_reducible refine Kd.vq ?_)));(case side2=>exact HC0.out);rintro e w3 ⟨v192,rfl,ho0,hb⟩;refine⟨_,rfl,?_⟩;have n0_:=qb.mk (Kd.zq ho0 (qG (by repeat(first|(with_reducible first|exact HB.out|apply qd|apply qa|apply qc)|exact HB.out))));have n1_:=qb.mk (qB (by repeat(first|(with_reducible first|exact HB.out|apply qd|apply qa|apply qc)|exact HB.out)) hb);clear HB;have Ad:=n0_;have HB:=n1_;clear n0_ n1_;(try clear hb);(try clear hb2);(try clear hk);(try clear hi);(try clear ho0);obtain⟨Ao4,co4,eo4⟩:=Kd.zn Ad.out;subst eo4))
 go_loopg [9] k (fun kq v9 w'=>∃ (Ab : List (vP)) (Aa : Int),v9 = .int .i64 Aa∧qb (vH.l0 kq Ab (Ac.length : Int) Aa=some r)∧qb (kq≤k)∧qb (Kd.R zM 50 w' w.heap.size (fun _=>True) (.slice Ao4 Ac.length co4) Ab)∧qb (Below w.heap.size w w'))
 case atStart=>exact⟨(Ac),(0),(by first|rfl|(simp;done)|(simp [*];done)),H',⟨Nat.le_refl _⟩,⟨by(with_reducible repeat(first|apply Kd.vB|apply Kd.vA|apply Kd.vK));exact Ad.out⟩,⟨by repeat(first|(with_reducible first|exact HB.out|apply qd|apply qa|apply qc)|exact HB.out)⟩⟩
 case round=>
  clear H';try clear p2
  obtain⟨Ab,Aa,rfl,HA,HK1,HO_3,HB⟩:=hrel;have hl3_1:=(Kd.vQ HO_3.out).1;rw [hl3_1] at HO_3
  (try simp only [hl3_1])
  cases gk with
  | zero=>exact absurd HA.out (by simp [vH.l0])
  | succ k1=>
   have H:=HA.out;clear HA;simp only [vH.l0] at H;by_cases c5 : Aa<(Ac.length : Int)
   ·rw [if_pos c5] at H
    have c5b0 : decide (Aa<(Ac.length : Int))=true:=decide_eq_true c5;clear c5;by_cases c6 : 0≤Aa
    ·rw [if_pos c6] at H
     have c6b0 : decide (0≤Aa)=true:=decide_eq_true c6;clear c6;by_cases c7 : Aa<(Ab.length : Int)
     ·rw [if_pos c7] at H
      have c7b0 : decide (Aa<(Ab.length : Int))=true:=decide_eq_true c7;clear c7;obtain⟨y194,hy194⟩ : ∃ y_ : List (vP),y_=(Ab.set (Aa : Int).toNat (⟨(qj Ab Aa).f0,(qj Ab Aa).f1,0⟩ : vP)):=⟨_,rfl⟩;replace H : (vH.l0 k1 y194 (Ac.length : Int) (wrap64 (Aa + 1)))=some r:=by first|(rw [hy194];with_reducible exact H)|(have H2_:=(Option.bind_some _ _).symm.trans H;rw [hy194];with_reducible exact H2_)|(have H2_:=(Option.bind_some _ _).symm.trans H;with_reducible exact H2_)|with_reducible exact H|(rw [hy194];exact H)|exact H
      have Ny194:=qb.mk hy194;clear hy194;have H':=qb.mk H;clear H;have p8 : 0≤(Aa : Int):=of_decide_eq_true (by first|(with_reducible assumption)|assumption);have q8 : (Aa : Int)<((Ab.length : Int) : Int):=of_decide_eq_true (by first|(with_reducible assumption)|assumption);obtain⟨go8,co8,eo8,gb8,gl8,cl8,HG8⟩:=Kd.R_form HO_3.out (by omega)
      (first|cases eo8|(injection eo8 with ea_ en_ ec_;(first|subst ea_|(injection ea_ with ea_;subst ea_));subst ec_;clear en_))
      have GB8:=qb.mk gb8;have GG8:=qb.mk HG8;clear gb8 gl8 HG8;obtain⟨ce8,hcl8,hM8,hcc8,hfr8⟩:=Kd.QY HO_3.out z50 (Aa : Int) p8 q8;obtain rfl:=jy hM8;have hx8_0 : wr.cell? ⟨go8,(Aa : Int).toNat * 3,none⟩=some (.string ((qj Ab Aa).f0)):=hcc8 0 _ rfl;have hx8_1 : wr.cell? ⟨go8,(Aa : Int).toNat * 3 + 1,none⟩=some (.string ((qj Ab Aa).f1)):=hcc8 1 _ rfl;have hx8_2 : wr.cell? ⟨go8,(Aa : Int).toNat * 3 + 2,none⟩=some (.int .i64 ((qj Ab Aa).f2)):=hcc8 2 _ rfl;have hf8_0 : wr.frozen? ⟨go8,(Aa : Int).toNat * 3,none⟩=false:=hfr8 0;have hf8_1 : wr.frozen? ⟨go8,(Aa : Int).toNat * 3 + 1,none⟩=false:=hfr8 1;have hf8_2 : wr.frozen? ⟨go8,(Aa : Int).toNat * 3 + 2,none⟩=false:=hfr8 2;clear hcl8 hcc8 hfr8 hM8;replace p8:=eq_true p8;replace q8:=eq_true q8;have HX9:=qb.mk (show Kd.R zM 50 wr w.heap.size (fun _=>True) (.slice (some ⟨go8,0,none⟩) Ab.length co4) Ab from(by(with_reducible repeat(first|apply Kd.vB|apply Kd.vA|apply Kd.vK));exact HO_3.out));obtain⟨ce9,hcl9,hM9,hcc9,hfr9⟩:=Kd.QY HX9.out z50 (Aa : Int) (of_decide_eq_true (by first|(with_reducible assumption)|assumption)) (by have h_ : (Aa : Int)<((Ab.length : Int) : Int):=of_decide_eq_true (by first|(with_reducible assumption)|assumption);first|exact h_|(have e_:=(Kd.vQ HO_3.out).1;omega)|simpa using h_);obtain rfl:=jy hM9;have HP9:=Kd.R_seg HX9.out (Aa : Int) (of_decide_eq_true (by first|(with_reducible assumption)|assumption)) (by have h_ : (Aa : Int)<((Ab.length : Int) : Int):=of_decide_eq_true (by first|(with_reducible assumption)|assumption);first|exact h_|(have e_:=(Kd.vQ HO_3.out).1;omega)|simpa using h_) (seg:=[.int .i64 0]) (j:=2) hcl9 hcc9 (show 3≤3 from by decide) (x':=(⟨(qj Ab Aa).f0,(qj Ab Aa).f1,0⟩ : vP)) (jq _ _ _ (⟨(qj Ab Aa).f0,(qj Ab Aa).f1,0⟩ : vP)) (fun _ hk=>hk);have hx9_2:=hcc9 2 _ rfl
      (try simp only [show (zM).sz=3 from rfl,Nat.mul_one,Nat.add_zero] at hx9_2)
      have hf9_2:=hfr9 2
      (try simp only [show (zM).sz=3 from rfl,Nat.mul_one,Nat.add_zero] at hf9_2)
      clear hcl9 hcc9 hfr9 hM9;go_wp2_with (first|((with_reducible refine QG (t:=3) (p:=15) rfl ?_);refine Qq (t:=3) (p:=15) (v:=?vo_w10) (w1:=(wr.setCell ⟨go8,(Aa : Int).toNat * 3 + 2,none⟩ (.int .i64 0))) ?hg ?ho ?hn ?hr ?_;(case ho=>rfl);(case hg=>rfl);(case hn=>rfl);(case hr=>first|(go_simp;done)|(go_simp;rfl));intro w10 hw;have hg : wr.grownBy w10 (some go8):=(by rw [hw];exact HP9.2);have hp_ : Kd.R zM 50 w10 w.heap.size (fun _=>True) (.slice (some ⟨go8,0,none⟩) Ab.length co4) y194:=(by rw [hw,Ny194.out];exact HP9.1);clear HP9;have n0_:=qb.mk (hp_);have n1_:=qb.mk ((by rw [hw];exact qh (HB.out) GB8.out : Below w.heap.size w w10));clear HO_3;clear HB;have HO_3:=n0_;have HB:=n1_;clear n0_ n1_;clear hg hw hp_))
      (try simp only [← hl3_1])
      go_roundg k1
      case measure=>have:=HK1.out;omega
      case rel=>exact⟨(y194),(wrap64 (Aa + 1)),(by first|rfl|(simp;done)|(simp [*];done)),H',⟨by have:=HK1.out;omega⟩,⟨by(try simp only [hl3_1]);(with_reducible repeat(first|apply Kd.vB|apply Kd.vA|apply Kd.vK));exact HO_3.out⟩,⟨by repeat(first|(with_reducible first|exact HB.out|apply qd|apply qa|apply qc)|exact HB.out)⟩⟩
     ·rw [if_neg c7] at H
      exact absurd H (by simp)
    ·rw [if_neg c6] at H
     exact absurd H (by simp)
   ·rw [if_neg c5] at H
    have c5b0 : decide (Aa<(Ac.length : Int))=false:=decide_eq_false c5
    (try(have c5b9:=c5b0;rw [hl3_1] at c5b9))
    clear c5;obtain rfl:=Option.some.inj H;go_wp2
    go_ret
    exact⟨_,by first|rfl|(simp [qK,qL] <;> rfl)|(simp [*,qK,qL] <;> rfl),by(with_reducible repeat(first|apply Kd.vB|apply Kd.vA|apply Kd.vK));exact HO_3.out,by repeat(first|(with_reducible first|exact HB.out|apply qd|apply qa|apply qc)|exact HB.out)⟩
end Go.Proofs.YtalpmbeddldfoaaDoor.PA
