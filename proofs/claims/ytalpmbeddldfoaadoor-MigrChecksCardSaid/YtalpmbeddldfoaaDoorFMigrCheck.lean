import Derived.Test.YtalpmbeddldfoaaDoorF0
import Derived.Test.YtalpmbeddldfoaaDoorFSessCheck
import Derived.Test.YtalpmbeddldfoaaDoorFKvoneCheck
import Derived.Test.YtalpmbeddldfoaaDoorFKvtwoCheck
import Derived.Test.YtalpmbeddldfoaaDoorFRunesVal
import Derived.Test.YtalpmbeddldfoaaDoorHandD
import Derived.Test.YtalpmbeddldfoaaDoorHandS
namespace Go.Proofs.YtalpmbeddldfoaaDoor.PA
open Go.RowKit Go.Proofs.YtalpmbeddldfoaaDoor.Hand Go.Proofs.YtalpmbeddldfoaaDoorW.PrintWords Go.Proofs.YtalpmbeddldfoaaDoorW.PrintLast Go.Proofs.YtalpmbeddldfoaaDoorW.PrintMore
attribute [local go_sem] vW vV zc zb vG vF vU vT
attribute [local go_sem high] za zd ze
set_option linter.unusedVariables false
set_option linter.unusedSimpArgs false
def vz.l0 : Nat→List (zo)→Int→Int→Int→List (vP)→List (zo)→Option (Int)
 | 0,_,_,_,_,_,_=>none
 | k + 1,x17,x18,x19,Ad,Aa,Ae=>if x19<x18 then(if 0≤x19 then(if x19<(x17.length : Int) then(if((qf x17 x19).f2.f5)=0 then(vz.l0 k x17 x18 (wrap64 (x19 + 1)) Ad Aa Ae) else(some 3)) else(none)) else(none)) else((qM.f k Aa).bind fun t205=>(some t205))
def vz.f(k : Nat)(a0_0 : Int)(l0_1 : List (vP))(l0_2 : List (zo)) : Option (Int):=(vo.f k l0_2).bind fun t202=>(if t202=0 then(if a0_0=1 then(vz.l0 k l0_2 (l0_2.length : Int) 0 a0_0 l0_1 l0_2) else(if a0_0=2 then((vM.f k l0_1).bind fun t206=>(some t206)) else(some 3))) else(some t202))
theorem vz.mono_l : ∀ k,(∀ y0 y1 y2 y3 y4 y5,qR (vz.l0 k y0 y1 y2 y3 y4 y5) (vz.l0 (k + 1) y0 y1 y2 y3 y4 y5))
 | 0=>fun _ _ _ _ _ _ r h=>by simp [vz.l0] at h
 | k + 1=>by
  have ih0:=vz.mono_l k
  ·intro y0 y1 y2 y3 y4 y5
   unfold vz.l0
   repeat' first
   | (with_reducible exact ih0 _ _ _ _ _ _)
   | (with_reducible exact qM.mono _ _)
   | (with_reducible exact vM.mono _ _)
   | (with_reducible exact vo.mono _ _)
   | (with_reducible exact qR.refl _)
   | (with_reducible exact qR.none _)
   | (with_reducible refine qR.ite ?_ ?_)
   | (with_reducible refine qR.bind ?_ (fun _=>?_))
   | exact ih0 _ _ _ _ _ _
   | exact qM.mono _ _
   | exact vM.mono _ _
   | exact vo.mono _ _
   | exact qR.none _
   | refine qR.ite ?_ ?_
   | refine qR.bind ?_ (fun _=>?_)
theorem vz.mono : ∀ a0 a1 a2 k,qR (vz.f k a0 a1 a2) (vz.f (k + 1) a0 a1 a2):=by
 intro a0 a1 a2 k;have ih0:=vz.mono_l k;unfold vz.f
 repeat' first
  | (with_reducible exact ih0 _ _ _ _ _ _)
  | (with_reducible exact qM.mono _ _)
  | (with_reducible exact vM.mono _ _)
  | (with_reducible exact vo.mono _ _)
  | (with_reducible exact qR.refl _)
  | (with_reducible exact qR.none _)
  | (with_reducible refine qR.ite ?_ ?_)
  | (with_reducible refine qR.bind ?_ (fun _=>?_))
  | exact ih0 _ _ _ _ _ _
  | exact qM.mono _ _
  | exact vM.mono _ _
  | exact vo.mono _ _
  | exact qR.none _
  | refine qR.ite ?_ ?_
  | refine qR.bind ?_ (fun _=>?_)
set_option maxHeartbeats 8000000 in
set_option maxRecDepth 100000 in
theorem vz.calls(k : Nat)(a0_0 : Int)(Af : Option Addr)(Ag : Nat)(l0_1 : List (vP))(Ab : Option Addr)(Ac : Nat)(l0_2 : List (zo))(r : Int)(w : World)(hr0_1 : Kd.C zM w Af l0_1.length l0_1)(hc0_1 : l0_1.length≤Ag)(hr0_2 : Kd.C jW w Ab l0_2.length l0_2)(hc0_2 : l0_2.length≤Ac)(h : vz.f k a0_0 l0_1 l0_2=some r)(hT : Qp w) :
 Calls Tryd.prog 39 #[.agg #[.int .i64 a0_0,.slice Af l0_1.length Ag,.slice Ab l0_2.length Ac]] w fun e w'=>e = .returned (.int .i64 r)∧Below w.heap.size w w':=by
 have hl2 : l0_2.length≤9223372036854775807:=hr0_2.2.1
 have key : ∀ (k : Nat) (i : Int),0≤i→vz.l0 k l0_2 (l0_2.length : Int) i a0_0 l0_1 l0_2=some r→
  ((∃ j : Int,i≤j∧j<l0_2.length∧VZ (qf l0_2 j)=true)∧r=3)∨((∀ j : Int,i≤j→j<l0_2.length→VZ (qf l0_2 j)=false) ∧ ∃ k',qM.f k' l0_1=some r):=by
  intro k
  induction k with
  | zero=>intro i _ h;simp [vz.l0] at h
  | succ k ih=>
   intro i h0 h;simp only [vz.l0] at h;by_cases c1 : i<(l0_2.length : Int)
   ·rw [if_pos c1,if_pos h0,if_pos c1] at h
    by_cases c2 : (qf l0_2 i).f2.f5=0
    ·rw [if_pos c2,IntWalk.wrap64_in _ (by omega)] at h
     rcases ih (i + 1) (by omega) h with ⟨⟨j,hj,hj2,hj3⟩,e⟩|⟨hj,e⟩
     ·exact .inl ⟨⟨j,by omega,hj2,hj3⟩,e⟩
     ·refine .inr ⟨fun j h1 h2=>?_,e⟩
      by_cases e : j=i
      ·subst e
       unfold VZ;rw [c2]
       rfl
      ·exact hj j (by omega) h2
    ·rw [if_neg c2] at h
     exact .inl ⟨⟨i,Int.le_refl _,c1,by unfold VZ;simpa using c2⟩,(Option.some.inj h).symm⟩
   ·rw [if_neg c1] at h
    obtain⟨t,ht,h⟩:=Option.bind_eq_some_iff.mp h;obtain rfl:=Option.some.inj h;exact .inr ⟨fun j h1 h2=>by omega,k,ht⟩
 have rdm : ∀ x ∈ l0_2,∃ j : Int,0≤j∧j<l0_2.length∧qf l0_2 j=x:=fun x hx=>by
  obtain⟨j,hj,rfl⟩:=List.getElem_of_mem hx;refine⟨j,by omega,by omega,?_⟩;show l0_2.getD (j : Int).toNat _=_
  rw [Int.toNat_natCast,List.getD_eq_getElem?_getD,List.getElem?_eq_getElem hj]
  rfl
 have hwalk : (∃ k' t,vo.f k' l0_2=some t∧((t≠0∧r=t)∨(t=0∧((a0_0=1∧((l0_2.any VZ=true∧r=3)∨(l0_2.any VZ=false ∧ ∃ k'',qM.f k'' l0_1=some r)))∨(a0_0=2 ∧ ∃ k'',vM.f k'' l0_1=some r)∨(a0_0≠1∧a0_0≠2∧r=3))))):=by
  unfold vz.f at h;obtain⟨t,ht,h⟩:=Option.bind_eq_some_iff.mp h;refine⟨k,t,ht,?_⟩;by_cases h0 : t=0
  ·rw [if_pos h0] at h
   refine .inr ⟨h0,?_⟩;by_cases h1 : a0_0=1
   ·rw [if_pos h1] at h
    refine .inl ⟨h1,?_⟩;rcases key k 0 (Int.le_refl _) h with ⟨⟨j,p1,p2,p3⟩,e⟩|⟨hno,k',e⟩
    ·exact .inl ⟨Qy VZ l0_2 j p1 p2 p3,e⟩
    ·refine .inr ⟨?_,k',e⟩
     rw [List.any_eq_false];intro x hx;obtain⟨j,p1,p2,rfl⟩:=rdm x hx;rw [hno j p1 p2];simp
   ·rw [if_neg h1] at h
    by_cases h2 : a0_0=2
    ·rw [if_pos h2] at h
     obtain⟨t2,ht2,h⟩:=Option.bind_eq_some_iff.mp h;obtain rfl:=Option.some.inj h;exact .inr (.inl ⟨h2,k,ht2⟩)
    ·rw [if_neg h2] at h
     exact .inr (.inr ⟨h1,h2,(Option.some.inj h).symm⟩)
  ·rw [if_neg h0] at h
   exact .inl ⟨h0,(Option.some.inj h).symm⟩
 clear key rdm h hl2;obtain⟨k',t,hs,hcase⟩:=hwalk;have HR1:=qb.mk hr0_1;have HC1:=qb.mk hc0_1;have HR2:=qb.mk hr0_2;have Ah:=qb.mk hc0_2;have HT:=qb.mk hT;have HS:=qb.mk hs;clear hr0_1 hc0_1 hr0_2 hc0_2 hT hs;have B1:=qb.mk ((Below.refl w.heap.size w).alloc (Nat.le_refl _) (.cells #[.int .i64 a0_0,.slice Af l0_1.length Ag,.slice Ab l0_2.length Ac] 35));rcases hcase with ⟨h0,rfl⟩|⟨rfl,⟨rfl,⟨ha,rfl⟩|⟨ha,k2,hk2⟩⟩|⟨rfl,k2,hk2⟩|⟨h1,h2,rfl⟩⟩
 ·have c1 : (r != 0)=true:=by simpa using h0
  have c2 : (r == 0)=false:=by simpa using h0
  clear h0;go_enter Tryd.func39,Tryd.ntmps39
  go_wp2_with fail
  refine(vo.calls k' _ _ l0_2 r _ (Kd.qS HR2.out _) Ah.out HS.out (HT.out.go B1.out)).mono ?_;rintro e w2 ⟨rfl,hb⟩;have g0:=zB hb 0 _ rfl;have g1:=zB hb 1 _ rfl;have g2:=zB hb 2 _ rfl;have hlt : w.heap.size<w2.heap.size:=by have:=hb.size;simp at this;omega
  have HB:=qb.mk (B1.out.trans (hb.mono B1.out.size));clear hb B1;go_wp2
  go_ret
  exact⟨rfl,HB.out⟩
 ·go_enter Tryd.func39,Tryd.ntmps39
  go_wp2_with fail
  refine(vo.calls k' _ _ l0_2 0 _ (Kd.qS HR2.out _) Ah.out HS.out (HT.out.go B1.out)).mono ?_;rintro e w2 ⟨rfl,hb⟩;have g0:=zB hb 0 _ rfl;have g1:=zB hb 1 _ rfl;have g2:=zB hb 2 _ rfl;have hlt : w.heap.size<w2.heap.size:=by have:=hb.size;simp at this;omega
  have HB:=qb.mk (B1.out.trans (hb.mono B1.out.size));clear hb B1;have cH:=jQ 75 VZ (enters_of Tryd.func75 (by kernel_rfl) rfl) rev_walk Ab Ac l0_2 w2 (Kd.vk HR2.out HB.out) Ah.out;rw [ha] at cH;clear ha;go_wp2_with fail
  refine cH.mono ?_;rintro e w3 ⟨rfl,hb3⟩;replace HB:=qb.mk (qB HB.out hb3);clear hb3 cH;go_wp2
  go_ret
  exact⟨rfl,HB.out⟩
 ·have HK:=qb.mk hk2
  clear hk2;go_enter Tryd.func39,Tryd.ntmps39
  go_wp2_with fail
  refine(vo.calls k' _ _ l0_2 0 _ (Kd.qS HR2.out _) Ah.out HS.out (HT.out.go B1.out)).mono ?_;rintro e w2 ⟨rfl,hb⟩;have g0:=zB hb 0 _ rfl;have g1:=zB hb 1 _ rfl;have g2:=zB hb 2 _ rfl;have hlt : w.heap.size<w2.heap.size:=by have:=hb.size;simp at this;omega
  have HB:=qb.mk (B1.out.trans (hb.mono B1.out.size));clear hb B1;have cH:=jQ 75 VZ (enters_of Tryd.func75 (by kernel_rfl) rfl) rev_walk Ab Ac l0_2 w2 (Kd.vk HR2.out HB.out) Ah.out;rw [ha] at cH;clear ha;go_wp2_with fail
  refine cH.mono ?_;rintro e w3 ⟨rfl,hb3⟩;replace g1:=(hb3.cell (p:=⟨w.heap.size,1,none⟩) hlt).trans g1;replace HB:=qb.mk (qB HB.out hb3);clear hb3 cH g0 g2 hlt;go_wp2_with fail
  refine(qM.calls k2 _ _ l0_1 r _ (Kd.vk HR1.out HB.out) HC1.out HK.out (HT.out.go HB.out)).mono ?_;rintro e w4 ⟨rfl,hb4⟩;replace HB:=qb.mk (qB HB.out hb4);clear hb4;go_wp2
  go_ret
  exact⟨rfl,HB.out⟩
 ·have HK:=qb.mk hk2
  clear hk2;go_enter Tryd.func39,Tryd.ntmps39
  go_wp2_with fail
  refine(vo.calls k' _ _ l0_2 0 _ (Kd.qS HR2.out _) Ah.out HS.out (HT.out.go B1.out)).mono ?_;rintro e w2 ⟨rfl,hb⟩;have g0:=zB hb 0 _ rfl;have g1:=zB hb 1 _ rfl;have g2:=zB hb 2 _ rfl;have hlt : w.heap.size<w2.heap.size:=by have:=hb.size;simp at this;omega
  have HB:=qb.mk (B1.out.trans (hb.mono B1.out.size));clear hb B1;go_wp2_with fail
  refine(vM.calls k2 _ _ l0_1 r _ (Kd.vk HR1.out HB.out) HC1.out HK.out (HT.out.go HB.out)).mono ?_;rintro e w4 ⟨rfl,hb4⟩;replace HB:=qb.mk (qB HB.out hb4);clear hb4;go_wp2
  go_ret
  exact⟨rfl,HB.out⟩
 ·have c1 : (a0_0 == 1)=false:=by simpa using h1
  have c2 : (a0_0 == 2)=false:=by simpa using h2
  clear h1 h2;go_enter Tryd.func39,Tryd.ntmps39
  go_wp2_with fail
  refine(vo.calls k' _ _ l0_2 0 _ (Kd.qS HR2.out _) Ah.out HS.out (HT.out.go B1.out)).mono ?_;rintro e w2 ⟨rfl,hb⟩;have g0:=zB hb 0 _ rfl;have g1:=zB hb 1 _ rfl;have g2:=zB hb 2 _ rfl;have hlt : w.heap.size<w2.heap.size:=by have:=hb.size;simp at this;omega
  have HB:=qb.mk (B1.out.trans (hb.mono B1.out.size));clear hb B1;go_wp2
  go_ret
  exact⟨rfl,HB.out⟩
end Go.Proofs.YtalpmbeddldfoaaDoor.PA
