import Derived.Test.YtalpmbeddldfoaaDoorHandIdx
import Derived.Test.YtalpmbeddldfoaaDoorF0
import Derived.Test.YtalpmbeddldfoaaDoorFKvoneCheck
import Derived.Test.YtalpmbeddldfoaaDoorFKvtwoPlain
import Derived.Test.YtalpmbeddldfoaaDoorRowT
section
/- The closures handed to slices.ContainsFunc. -/
set_option linter.unusedVariables false
namespace Go.Proofs.YtalpmbeddldfoaaDoor.PA
open Go.RowKit Go.Proofs.YtalpmbeddldfoaaDoorW.PrintWords Go.Proofs.YtalpmbeddldfoaaDoorW.PrintLast Go.Proofs.YtalpmbeddldfoaaDoorW.PrintMore
def oddB (x : vA) : Bool := decide (x.f2 < 1) || decide (4294967296 < x.f2)
theorem odd_walk (W : World) (x : vA) : Calls Tryd.prog 88 #[.agg #[.string (x).f0, .string (x).f1, .int .i64 (x).f2]] W fun e w' => e = .returned (.bool (oddB x)) ∧ Below W.heap.size W w' := by
  have HB := (Below.refl W.heap.size W).alloc (Nat.le_refl _) (.cells #[.string (x).f0, .string (x).f1, .int .i64 (x).f2] 50)
  by_cases h1 : x.f2 < 1
  · have c1 : decide (x.f2 < 1) = true := decide_eq_true h1
    have hr : oddB x = true := by unfold oddB; rw [c1]; rfl
    rw [hr]
    clear hr h1
    go_enter Tryd.func88, Tryd.ntmps88
    go_wp2
    go_ret
    exact ⟨rfl, HB⟩
  · have c1 : decide (x.f2 < 1) = false := decide_eq_false h1
    have hr : oddB x = decide (4294967296 < x.f2) := by unfold oddB; rw [c1]; rfl
    rw [hr]
    clear hr h1
    go_enter Tryd.func88, Tryd.ntmps88
    go_wp2
    go_ret
    exact ⟨rfl, HB⟩
def revB (x : S74) : Bool := x.f2.f5 != 0
theorem rev_walk (W : World) (x : S74) : Calls Tryd.prog 75 #[.agg #[.int .i64 (x).f0, .int .i64 (x).f1, .int .i64 (x).f2.f0, .int .i64 (x).f2.f1, .int .i64 (x).f2.f2, .bool (x).f2.f3, .string (x).f2.f4, .int .i64 (x).f2.f5]] W fun e w' => e = .returned (.bool (revB x)) ∧ Below W.heap.size W w' := by
  have HB := (Below.refl W.heap.size W).alloc (Nat.le_refl _) (.cells #[.int .i64 (x).f0, .int .i64 (x).f1, .int .i64 (x).f2.f0, .int .i64 (x).f2.f1, .int .i64 (x).f2.f2, .bool (x).f2.f3, .string (x).f2.f4, .int .i64 (x).f2.f5] 74)
  unfold revB
  go_enter Tryd.func75, Tryd.ntmps75
  go_wp2
  go_ret
  exact ⟨rfl, HB⟩
end Go.Proofs.YtalpmbeddldfoaaDoor.PA
end
section
namespace Go.Proofs.YtalpmbeddldfoaaDoor.PA
open Go.RowKit Go.Proofs.YtalpmbeddldfoaaDoor.Hand Go.Proofs.YtalpmbeddldfoaaDoorW.PrintWords Go.Proofs.YtalpmbeddldfoaaDoorW.PrintLast Go.Proofs.YtalpmbeddldfoaaDoorW.PrintMore
attribute [local go_sem] vQ vS zc za vH vJ vR vT   -- for this text's walks alone
attribute [local go_sem high] vZ zd zb
set_option linter.unusedVariables false
set_option linter.unusedSimpArgs false
def vn.l0 : Nat→List (vA)→List (vA)→Int→Int→Option (Int)
 | 0,_,_,_,_=>none
 | k + 1,x0,x5,x6,x7=>if x7<x6 then(if 0≤x7 then(if x7<(x5.length : Int) then(if((qn x5 x7).f2)<1 then(some 3) else(if((qn x5 x7).f2) > 4294967296 then(some 3) else(vn.l0 k x0 x5 x6 (wrap64 (x7 + 1))))) else(none)) else(none)) else((vm.f k x0).bind fun t197=>((qR.f k t197).bind fun t200=>(some t200)))
def vn.f(k : Nat)(l0 : List (vA)) : Option (Int):=vn.l0 k l0 l0 (l0.length : Int) 0
theorem vn.mono_l : ∀ k,(∀ y0 y1 y2 y3,qY (vn.l0 k y0 y1 y2 y3) (vn.l0 (k + 1) y0 y1 y2 y3))
 | 0=>fun _ _ _ _ r h=>by simp [vn.l0] at h
 | k + 1=>by
  have ih0:=vn.mono_l k
  ·intro y0 y1 y2 y3
   unfold vn.l0
   repeat' first
   | (with_reducible exact ih0 _ _ _ _)
   | (with_reducible exact qR.mono _ _)
   | (with_reducible exact vm.mono _ _)
   | (with_reducible exact qY.refl _)
   | (with_reducible exact qY.none _)
   | (with_reducible refine qY.ite ?_ ?_)
   | (with_reducible refine qY.bind ?_ (fun _=>?_))
   | exact ih0 _ _ _ _
   | exact qR.mono _ _
   | exact vm.mono _ _
   | exact qY.none _
   | refine qY.ite ?_ ?_
   | refine qY.bind ?_ (fun _=>?_)
theorem vn.mono : ∀ a0 k,qY (vn.f k a0) (vn.f (k + 1) a0):=by
 intro a0 k;have ih0:=vn.mono_l k;unfold vn.f
 repeat' first
  | (with_reducible exact ih0 _ _ _ _)
  | (with_reducible exact qR.mono _ _)
  | (with_reducible exact vm.mono _ _)
  | (with_reducible exact qY.refl _)
  | (with_reducible exact qY.none _)
  | (with_reducible refine qY.ite ?_ ?_)
  | (with_reducible refine qY.bind ?_ (fun _=>?_))
  | exact ih0 _ _ _ _
  | exact qR.mono _ _
  | exact vm.mono _ _
  | exact qY.none _
  | refine qY.ite ?_ ?_
  | refine qY.bind ?_ (fun _=>?_)
set_option maxHeartbeats 8000000 in
set_option maxRecDepth 100000 in
theorem vn.calls(k : Nat)(A0 : Option Addr)(c0 : Nat)(l0 : List (vA))(r : Int)(w : World)(hr0 : Kd.C zq w A0 l0.length l0)(hc0 : l0.length≤c0)(h : vn.f k l0=some r)(hT : Tabs w) :
 Calls Tryd.prog 55 #[.slice A0 l0.length c0] w fun e w'=>e = .returned (.int .i64 r)∧Below w.heap.size w w':=by
 have hl : l0.length≤9223372036854775807:=hr0.2.1
 have key : ∀ (k : Nat) (i : Int),0≤i→vn.l0 k l0 l0 (l0.length : Int) i=some r→
  ((∃ j : Int,i≤j∧j<l0.length∧oddB (qn l0 j)=true)∧r=3)∨((∀ j : Int,i≤j→j<l0.length→oddB (qn l0 j)=false) ∧ ∃ k' t,vm.f k' l0=some t∧qR.f k' t=some r):=by
  intro k
  induction k with
  | zero=>intro i _ h;simp [vn.l0] at h
  | succ k ih=>
   intro i h0 h;simp only [vn.l0] at h;by_cases c1 : i<(l0.length : Int)
   ·rw [if_pos c1,if_pos h0,if_pos c1] at h
    by_cases c2 : (qn l0 i).f2<1
    ·rw [if_pos c2] at h
     exact .inl ⟨⟨i,Int.le_refl _,c1,by unfold oddB;rw [decide_eq_true c2];rfl⟩,(Option.some.inj h).symm⟩
    ·rw [if_neg c2] at h
     by_cases c3 : (qn l0 i).f2 > 4294967296
     ·rw [if_pos c3] at h
      exact .inl ⟨⟨i,Int.le_refl _,c1,by unfold oddB;rw [decide_eq_true (show 4294967296<(qn l0 i).f2 from c3)];simp⟩,(Option.some.inj h).symm⟩
     ·rw [if_neg c3,IntWalk.wrap64_in _ (by omega)] at h
      rcases ih (i + 1) (by omega) h with ⟨⟨j,hj,hj2,hj3⟩,e⟩|⟨hj,e⟩
      ·exact .inl ⟨⟨j,by omega,hj2,hj3⟩,e⟩
      ·refine .inr ⟨fun j h1 h2=>?_,e⟩
       by_cases e : j=i
       ·subst e
        unfold oddB;rw [decide_eq_false c2,decide_eq_false (show ¬ 4294967296<(qn l0 j).f2 from c3)]
        rfl
       ·exact hj j (by omega) h2
   ·rw [if_neg c1] at h
    obtain⟨t,ht,h⟩:=Option.bind_eq_some_iff.mp h;obtain⟨t2,ht2,h⟩:=Option.bind_eq_some_iff.mp h;obtain rfl:=Option.some.inj h;exact .inr ⟨fun j h1 h2=>by omega,k,t,ht,ht2⟩
 have hk:=key k 0 (Int.le_refl _) h;clear key h;have cH:=hasPair_calls 88 oddB (enters_of Tryd.func88 (by kernel_rfl) rfl) odd_walk A0 c0 l0 w hr0 hc0
 have rdm : ∀ x ∈ l0,∃ j : Int,0≤j∧j<l0.length∧qn l0 j=x:=fun x hx=>by
  obtain⟨j,hj,rfl⟩:=List.getElem_of_mem hx;refine⟨j,by omega,by omega,?_⟩;show l0.getD (j : Int).toNat _=_
  rw [Int.toNat_natCast,List.getD_eq_getElem?_getD,List.getElem?_eq_getElem hj]
  rfl
 rcases hk with ⟨⟨j,h1,h2,h3⟩,rfl⟩|⟨hno,k',t,ht,hc⟩
 ·have ha : l0.any oddB=true:=any_atPair oddB l0 j h1 h2 h3
  rw [ha] at cH;clear ha hr0 hc0 hT rdm hl h1 h2 h3;go_enter Tryd.func55,Tryd.ntmps55
  go_wp2_with (go_at_call 89;refine cH.mono ?_;rintro e w2 ⟨rfl,hb2⟩)
  go_ret
  exact⟨rfl,hb2⟩
 ·have ha : l0.any oddB=false:=by
   rw [List.any_eq_false];intro x hx;obtain⟨j,h1,h2,rfl⟩:=rdm x hx;rw [hno j h1 h2];simp
  rw [ha] at cH;have HR:=qd.mk hr0;have HC:=qd.mk hc0;have HT:=qd.mk hT;have HP:=qd.mk ht;have HK:=qd.mk hc;clear ha hr0 hc0 hT rdm hl hno ht hc;go_enter Tryd.func55,Tryd.ntmps55
  go_wp2_with (go_at_call 89;refine cH.mono ?_;rintro e w2 ⟨rfl,hb2⟩;have HB:=qd.mk hb2;clear hb2)
  go_wp2_with fail
  refine(vm.calls k' _ _ l0 t _ (Kd.ze HR.out HB.out) HC.out HP.out).mono ?_;rintro e w3 ⟨v,rfl,ho,hb3⟩;obtain⟨A1,c1,rfl⟩:=Kd.vK ho;have HO:=qd.mk (Kd.vu ho);replace HB:=qd.mk (qt HB.out hb3);clear ho hb3;go_wp2_with fail
  refine(qR.calls k' _ _ t r _ HO.out.2.2 HO.out.2.1 HK.out (HT.out.go HB.out)).mono ?_;rintro e w4 ⟨rfl,hb4⟩;replace HB:=qd.mk (qt HB.out hb4);clear hb4;go_wp2
  go_ret
  exact⟨rfl,HB.out⟩
end Go.Proofs.YtalpmbeddldfoaaDoor.PA
end
