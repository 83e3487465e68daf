import Derived.Test.YtalpmbeddldfoaaDoorF0
import Derived.Test.YtalpmbeddldfoaaDoorFApiPair87
namespace Go.Proofs.YtalpmbeddldfoaaDoor.PA
open Go.RowKit Go.Proofs.YtalpmbeddldfoaaDoor.Hand Go.Proofs.YtalpmbeddldfoaaDoorW.PrintWords Go.Proofs.YtalpmbeddldfoaaDoorW.PrintLast Go.Proofs.YtalpmbeddldfoaaDoorW.PrintMore
attribute [local go_sem] vQ vS zc za vH vJ vR vT   -- for this text's walks alone
attribute [local go_sem high] vZ zd zb
set_option linter.unusedVariables false
set_option linter.unusedSimpArgs false
def vm.l0 : Nat→List (vA)→Int→Int→Option ((List (vA)))
 | 0,_,_,_=>none
 | k + 1,x3,x8,x9=>if x9<x8 then(if 0≤x9 then(if x9<(x3.length : Int) then(vm.l0 k (x3.set (x9 : Int).toNat (⟨(qn x3 x9).f0,(qn x3 x9).f1,0⟩ : vA)) x8 (wrap64 (x9 + 1))) else(none)) else(none)) else(some x3)
def vm.f(k : Nat)(l0 : List (vA)) : Option ((List (vA))):=(vY.f l0).bind fun Ac=>(vm.l0 k Ac (Ac.length : Int) 0)
theorem vm.mono_l : ∀ k,(∀ y0 y1 y2,qY (vm.l0 k y0 y1 y2) (vm.l0 (k + 1) y0 y1 y2))
 | 0=>fun _ _ _ r h=>by simp [vm.l0] at h
 | k + 1=>by
  have ih0:=vm.mono_l k
  ·intro y0 y1 y2
   unfold vm.l0
   repeat' first
   | (with_reducible exact ih0 _ _ _)
   | (with_reducible exact qY.refl _)
   | (with_reducible exact qY.none _)
   | (with_reducible refine qY.ite ?_ ?_)
   | (with_reducible refine qY.bind ?_ (fun _=>?_))
   | exact ih0 _ _ _
   | exact qY.none _
   | refine qY.ite ?_ ?_
   | refine qY.bind ?_ (fun _=>?_)
theorem vm.mono : ∀ a0 k,qY (vm.f k a0) (vm.f (k + 1) a0):=by
 intro a0 k;have ih0:=vm.mono_l k;unfold vm.f
 repeat' first
  | (with_reducible exact ih0 _ _ _)
  | (with_reducible exact qY.refl _)
  | (with_reducible exact qY.none _)
  | (with_reducible refine qY.ite ?_ ?_)
  | (with_reducible refine qY.bind ?_ (fun _=>?_))
  | exact ih0 _ _ _
  | exact qY.none _
  | refine qY.ite ?_ ?_
  | refine qY.bind ?_ (fun _=>?_)
set_option maxHeartbeats 8000000 in
set_option maxRecDepth 100000 in
theorem vm.calls(k : Nat)(A0 : Option Addr)(c0 : Nat)(l0 : List (vA))(r : List (vA))(w : World)(hr0 : Kd.C zq w A0 l0.length l0)(hc0 : l0.length≤c0)(h : vm.f k l0=some r) :
 Calls Tryd.prog 54 #[.slice A0 l0.length c0] w fun e w'=>∃ v0_ : Value,e = .returned (v0_)∧Kd.R zq 50 w' w.heap.size (fun _=>True) v0_ r∧Below w.heap.size w w':=by
 have HR0:=qd.mk hr0;have HC0:=qd.mk hc0;clear hr0 hc0;have HB:=qd.mk (Below.refl w.heap.size w);have H : ((vY.f l0).bind fun Ac=>(vm.l0 k Ac (Ac.length : Int) 0))=some r:=h;clear h;replace H:=Option.bind_eq_some_iff.mp H;obtain⟨Ac,A20,H⟩:=H;replace H : (vm.l0 k Ac (Ac.length : Int) 0)=some r:=H;have A2:=qd.mk A20;clear A20;have H':=qd.mk H;clear H;go_enter Tryd.func54,Tryd.ntmps54
 go_wp2_with (first|((with_reducible refine qW (f:=87) rfl ?_);refine vM (some 6) rfl rfl Tryd.func87 (by kernel_rfl) rfl #[.slice A0 l0.length c0] rfl (by(try simp only [List.map_toArray,List.map_cons,List.map_nil]);first|done|rfl|(simp only [List.length_drop,List.length_take];rfl)) ?_;(with_reducible refine(vY.calls _ _ l0 Ac _ ?side1 ?side2 A2.out).mono ?_);(case side1=>repeat(first|exact HR0.out|(with_reducible refine Kd.vN ?_ _)|(with_reducible refine Kd.vP ?_ _)|(with_reducible refine Kd.vX ?_)));(case side2=>exact HC0.out);rintro e w3 ⟨v192,rfl,ho0,hb⟩;refine⟨_,rfl,?_⟩;have n0_:=qd.mk (Kd.zj ho0 (qz (by repeat(first|(with_reducible first|exact HB.out|apply qi|apply qe|apply qh)|exact HB.out))));have n1_:=qd.mk (qt (by repeat(first|(with_reducible first|exact HB.out|apply qi|apply qe|apply qh)|exact HB.out)) hb);clear HB;have Ad:=n0_;have HB:=n1_;clear n0_ n1_;(try clear hb);(try clear hb2);(try clear hk);(try clear hi);(try clear ho0);obtain⟨Ao4,co4,eo4⟩:=Kd.vK Ad.out;subst eo4))
 go_loopg [9] k (fun kq v9 w'=>∃ (Ab : List (vA)) (Aa : Int),v9 = .int .i64 Aa∧qd (vm.l0 kq Ab (Ac.length : Int) Aa=some r)∧qd (kq≤k)∧qd (Kd.R zq 50 w' w.heap.size (fun _=>True) (.slice Ao4 Ac.length co4) Ab)∧qd (Below w.heap.size w w'))
 case atStart=>exact⟨(Ac),(0),(by first|rfl|(simp;done)|(simp [*];done)),H',⟨Nat.le_refl _⟩,⟨by(with_reducible repeat(first|apply Kd.qJ|apply Kd.qK|apply Kd.qN));exact Ad.out⟩,⟨by repeat(first|(with_reducible first|exact HB.out|apply qi|apply qe|apply qh)|exact HB.out)⟩⟩
 case round=>
  clear H';try clear p2
  obtain⟨Ab,Aa,rfl,HA,HK1,HO_3,HB⟩:=hrel;have hl3_1:=(Kd.vu HO_3.out).1;rw [hl3_1] at HO_3
  (try simp only [hl3_1])
  cases gk with
  | zero=>exact absurd HA.out (by simp [vm.l0])
  | succ k1=>
   have H:=HA.out;clear HA;simp only [vm.l0] at H;by_cases c5 : Aa<(Ac.length : Int)
   ·rw [if_pos c5] at H
    have c5b0 : decide (Aa<(Ac.length : Int))=true:=decide_eq_true c5;clear c5;by_cases c6 : 0≤Aa
    ·rw [if_pos c6] at H
     have c6b0 : decide (0≤Aa)=true:=decide_eq_true c6;clear c6;by_cases c7 : Aa<(Ab.length : Int)
     ·rw [if_pos c7] at H
      have c7b0 : decide (Aa<(Ab.length : Int))=true:=decide_eq_true c7;clear c7;obtain⟨y194,hy194⟩ : ∃ y_ : List (vA),y_=(Ab.set (Aa : Int).toNat (⟨(qn Ab Aa).f0,(qn Ab Aa).f1,0⟩ : vA)):=⟨_,rfl⟩;replace H : (vm.l0 k1 y194 (Ac.length : Int) (wrap64 (Aa + 1)))=some r:=by first|(rw [hy194];with_reducible exact H)|(have H2_:=(Option.bind_some _ _).symm.trans H;rw [hy194];with_reducible exact H2_)|(have H2_:=(Option.bind_some _ _).symm.trans H;with_reducible exact H2_)|with_reducible exact H|(rw [hy194];exact H)|exact H
      have Ny194:=qd.mk hy194;clear hy194;have H':=qd.mk H;clear H;have p8 : 0≤(Aa : Int):=of_decide_eq_true (by first|(with_reducible assumption)|assumption);have q8 : (Aa : Int)<((Ab.length : Int) : Int):=of_decide_eq_true (by first|(with_reducible assumption)|assumption);obtain⟨go8,co8,eo8,gb8,gl8,cl8,HG8⟩:=Kd.R_form HO_3.out (by omega)
      (first|cases eo8|(injection eo8 with ea_ en_ ec_;(first|subst ea_|(injection ea_ with ea_;subst ea_));subst ec_;clear en_))
      have GB8:=qd.mk gb8;have GG8:=qd.mk HG8;clear gb8 gl8 HG8;obtain⟨ce8,hcl8,hM8,hcc8,hfr8⟩:=Kd.R_elem HO_3.out z50 (Aa : Int) p8 q8;obtain rfl:=k50_openM hM8;have hx8_0 : wr.cell? ⟨go8,(Aa : Int).toNat * 3,none⟩=some (.string ((qn Ab Aa).f0)):=hcc8 0 _ rfl;have hx8_1 : wr.cell? ⟨go8,(Aa : Int).toNat * 3 + 1,none⟩=some (.string ((qn Ab Aa).f1)):=hcc8 1 _ rfl;have hx8_2 : wr.cell? ⟨go8,(Aa : Int).toNat * 3 + 2,none⟩=some (.int .i64 ((qn Ab Aa).f2)):=hcc8 2 _ rfl;have hf8_0 : wr.frozen? ⟨go8,(Aa : Int).toNat * 3,none⟩=false:=hfr8 0;have hf8_1 : wr.frozen? ⟨go8,(Aa : Int).toNat * 3 + 1,none⟩=false:=hfr8 1;have hf8_2 : wr.frozen? ⟨go8,(Aa : Int).toNat * 3 + 2,none⟩=false:=hfr8 2;clear hcl8 hcc8 hfr8 hM8;replace p8:=eq_true p8;replace q8:=eq_true q8;have HX9:=qd.mk (show Kd.R zq 50 wr w.heap.size (fun _=>True) (.slice (some ⟨go8,0,none⟩) Ab.length co4) Ab from(by(with_reducible repeat(first|apply Kd.qJ|apply Kd.qK|apply Kd.qN));exact HO_3.out));obtain⟨ce9,hcl9,hM9,hcc9,hfr9⟩:=Kd.R_elem HX9.out z50 (Aa : Int) (of_decide_eq_true (by first|(with_reducible assumption)|assumption)) (by have h_ : (Aa : Int)<((Ab.length : Int) : Int):=of_decide_eq_true (by first|(with_reducible assumption)|assumption);first|exact h_|(have e_:=(Kd.vu HO_3.out).1;omega)|simpa using h_);obtain rfl:=k50_openM hM9;have HP9:=Kd.R_seg HX9.out (Aa : Int) (of_decide_eq_true (by first|(with_reducible assumption)|assumption)) (by have h_ : (Aa : Int)<((Ab.length : Int) : Int):=of_decide_eq_true (by first|(with_reducible assumption)|assumption);first|exact h_|(have e_:=(Kd.vu HO_3.out).1;omega)|simpa using h_) (seg:=[.int .i64 0]) (j:=2) hcl9 hcc9 (show 3≤3 from by decide) (x':=(⟨(qn Ab Aa).f0,(qn Ab Aa).f1,0⟩ : vA)) (k50_mkM _ _ _ (⟨(qn Ab Aa).f0,(qn Ab Aa).f1,0⟩ : vA)) (fun _ hk=>hk);have hx9_2:=hcc9 2 _ rfl
      (try simp only [show (zq).sz=3 from rfl,Nat.mul_one,Nat.add_zero] at hx9_2)
      have hf9_2:=hfr9 2
      (try simp only [show (zq).sz=3 from rfl,Nat.mul_one,Nat.add_zero] at hf9_2)
      clear hcl9 hcc9 hfr9 hM9;go_wp2_with (first|((with_reducible refine gate_store (t:=3) (p:=15) rfl ?_);refine zV (t:=3) (p:=15) (v:=?vo_w10) (w1:=(wr.setCell ⟨go8,(Aa : Int).toNat * 3 + 2,none⟩ (.int .i64 0))) ?hg ?ho ?hn ?hr ?_;(case ho=>rfl);(case hg=>rfl);(case hn=>rfl);(case hr=>first|(go_simp;done)|(go_simp;rfl));intro w10 hw;have hg : wr.grownBy w10 (some go8):=(by rw [hw];exact HP9.2);have hp_ : Kd.R zq 50 w10 w.heap.size (fun _=>True) (.slice (some ⟨go8,0,none⟩) Ab.length co4) y194:=(by rw [hw,Ny194.out];exact HP9.1);clear HP9;have n0_:=qd.mk (hp_);have n1_:=qd.mk ((by rw [hw];exact qj (HB.out) GB8.out : Below w.heap.size w w10));clear HO_3;clear HB;have HO_3:=n0_;have HB:=n1_;clear n0_ n1_;clear hg hw hp_))
      (try simp only [← hl3_1])
      go_roundg k1
      case measure=>have:=HK1.out;omega
      case rel=>exact⟨(y194),(wrap64 (Aa + 1)),(by first|rfl|(simp;done)|(simp [*];done)),H',⟨by have:=HK1.out;omega⟩,⟨by(try simp only [hl3_1]);(with_reducible repeat(first|apply Kd.qJ|apply Kd.qK|apply Kd.qN));exact HO_3.out⟩,⟨by repeat(first|(with_reducible first|exact HB.out|apply qi|apply qe|apply qh)|exact HB.out)⟩⟩
     ·rw [if_neg c7] at H
      exact absurd H (by simp)
    ·rw [if_neg c6] at H
     exact absurd H (by simp)
   ·rw [if_neg c5] at H
    have c5b0 : decide (Aa<(Ac.length : Int))=false:=decide_eq_false c5
    (try(have c5b9:=c5b0;rw [hl3_1] at c5b9))
    clear c5;obtain rfl:=Option.some.inj H;go_wp2
    go_ret
    exact⟨_,by first|rfl|(simp [qQ,qP] <;> rfl)|(simp [*,qQ,qP] <;> rfl),by(with_reducible repeat(first|apply Kd.qJ|apply Kd.qK|apply Kd.qN));exact HO_3.out,by repeat(first|(with_reducible first|exact HB.out|apply qi|apply qe|apply qh)|exact HB.out)⟩
end Go.Proofs.YtalpmbeddldfoaaDoor.PA
