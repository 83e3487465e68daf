import Derived.Test.YtalpmbeddldfoaaDoorF0
import Derived.Test.YtalpmbeddldfoaaDoorHandB
import Derived.Test.YtalpmbeddldfoaaDoorHandS
import Derived.Test.YtalpmbeddldfoaaDoorHandIdx
import Derived.Test.YtalpmbeddldfoaaDoorFChangeoverref05Val
import Derived.Test.YtalpmbeddldfoaaDoorPKeyVal
import Derived.Test.YtalpmbeddldfoaaDoorHandD
section
namespace Go.Proofs.YtalpmbeddldfoaaDoor.PA
open Go.RowKit Go.Proofs.YtalpmbeddldfoaaDoor.Hand Go.Proofs.YtalpmbeddldfoaaDoorW.PrintWords Go.Proofs.YtalpmbeddldfoaaDoorW.PrintLast Go.Proofs.YtalpmbeddldfoaaDoorW.PrintMore
attribute [local go_sem] vW vV zc zb vG vF vU vT
attribute [local go_sem high] za zd ze
set_option linter.unusedVariables false
set_option linter.unusedSimpArgs false
def qN.l0 : Nat→List (vP)→Int→Option (Bool)
 | 0,_,_=>none
 | k + 1,x0,x3=>if x3<(x0.length : Int) then(if 0≤x3 then(if 0≤(wrap64 (x3 - 1)) then(if(wrap64 (x3 - 1))<(x0.length : Int) then(if((Op.bytesLess (((qj x0 (wrap64 (x3 - 1))).f0).toList) (((qj x0 x3).f0).toList))=true) then(qN.l0 k x0 (wrap64 (x3 + 1))) else(some false)) else(none)) else(none)) else(none)) else(some true)
def qN.f(k : Nat)(l0 : List (vP)) : Option (Bool):=qN.l0 k l0 1
theorem qN.mono_l : ∀ k,(∀ y0 y1,qR (qN.l0 k y0 y1) (qN.l0 (k + 1) y0 y1))
 | 0=>fun _ _ r h=>by simp [qN.l0] at h
 | k + 1=>by
  have ih0:=qN.mono_l k
  ·intro y0 y1
   unfold qN.l0
   repeat' first
   | (with_reducible exact ih0 _ _)
   | (with_reducible exact qR.refl _)
   | (with_reducible exact qR.none _)
   | (with_reducible refine qR.ite ?_ ?_)
   | (with_reducible refine qR.bind ?_ (fun _=>?_))
   | exact ih0 _ _
   | exact qR.none _
   | refine qR.ite ?_ ?_
   | refine qR.bind ?_ (fun _=>?_)
theorem qN.mono : ∀ a0 k,qR (qN.f k a0) (qN.f (k + 1) a0):=by
 intro a0 k;have ih0:=qN.mono_l k;unfold qN.f
 repeat' first
  | (with_reducible exact ih0 _ _)
  | (with_reducible exact qR.refl _)
  | (with_reducible exact qR.none _)
  | (with_reducible refine qR.ite ?_ ?_)
  | (with_reducible refine qR.bind ?_ (fun _=>?_))
  | exact ih0 _ _
  | exact qR.none _
  | refine qR.ite ?_ ?_
  | refine qR.bind ?_ (fun _=>?_)
set_option maxHeartbeats 8000000 in
set_option maxRecDepth 100000 in
theorem qN.calls(k : Nat)(A0 : Option Addr)(c0 : Nat)(l0 : List (vP))(r : Bool)(w : World)(hr0 : Kd.C zM w A0 l0.length l0)(hc0 : l0.length≤c0)(h : qN.f k l0=some r) :
 Calls Tryd.prog 50 #[.slice A0 l0.length c0] w fun e w'=>e = .returned (.bool r)∧qz w w':=by
 have HR0:=qb.mk hr0;have HC0:=qb.mk hc0;clear hr0 hc0;have H : (qN.l0 k l0 1)=some r:=h;clear h;have H':=qb.mk H;clear H;go_enter Tryd.func50,Tryd.ntmps50
 go_wp2
 repeat(go_quiet (fail);try go_wp2)
 go_loopg [3] k (fun kq v3 w'=>∃ (Aa : Int),v3 = .int .i64 Aa∧qb (qN.l0 kq l0 Aa=some r)∧qb (kq≤k)∧qz w w')
 case atStart=>exact⟨(1),(by first|rfl|(simp;done)|(simp [*];done)),H',⟨Nat.le_refl _⟩,by repeat(first|exact qz.refl _|apply qz.step)⟩
 case round=>
  clear H';obtain⟨Aa,rfl,HA,HK1,⟨m1,rfl⟩⟩:=hrel
  cases gk with
  | zero=>exact absurd HA.out (by simp [qN.l0])
  | succ k1=>
   have H:=HA.out;clear HA;simp only [qN.l0] at H;by_cases c2 : Aa<(l0.length : Int)
   ·rw [if_pos c2] at H
    have c2b0 : decide (Aa<(l0.length : Int))=true:=decide_eq_true c2;clear c2;by_cases c3 : 0≤Aa
    ·rw [if_pos c3] at H
     have c3b0 : decide (0≤Aa)=true:=decide_eq_true c3;clear c3;obtain⟨Ab,Ac⟩ : ∃ j_ : Int,(wrap64 (Aa - 1))=j_:=⟨_,rfl⟩;replace H : (if 0≤(Ab) then(if(Ab)<(l0.length : Int) then(if((Op.bytesLess (((qj l0 (Ab)).f0).toList) (((qj l0 Aa).f0).toList))=true) then(qN.l0 k1 l0 (wrap64 (Aa + 1))) else(some false)) else(none)) else(none))=some r:=by first|(rw [Ac] at H;exact H)|(simp only [Ac] at H ⊢;exact H)
     have hji4w : (IntKind.i64.wrap (Aa - 1))=Ab:=(qm _).trans Ac;by_cases c5 : 0≤(Ab)
     ·rw [if_pos c5] at H
      have c5b0 : decide (0≤(Ab))=true:=decide_eq_true c5;clear c5;by_cases c6 : (Ab)<(l0.length : Int)
      ·rw [if_pos c6] at H
       have c6b0 : decide ((Ab)<(l0.length : Int))=true:=decide_eq_true c6;clear c6;by_cases c7 : ((Op.bytesLess (((qj l0 (Ab)).f0).toList) (((qj l0 Aa).f0).toList))=true)
       ·rw [if_pos c7] at H
        have c7b0 : (Op.bytesLess (((qj l0 (Ab)).f0).toList) (((qj l0 Aa).f0).toList))=true:=c7;clear c7;have H':=qb.mk H;clear H;have p257 : 0≤(Aa : Int):=of_decide_eq_true (by first|(with_reducible assumption)|assumption);have q257 : Aa<(l0.length : Int):=of_decide_eq_true (by first|(with_reducible assumption)|assumption);obtain⟨ad257,e257,Ad,Ae,Af⟩:=vY HR0.out Aa p257 q257
        cases e257
        replace p257:=eq_true p257;replace q257:=eq_true q257;have p258 : 0≤((Ab) : Int):=of_decide_eq_true (by first|(with_reducible assumption)|assumption);have q258 : (Ab)<(l0.length : Int):=of_decide_eq_true (by first|(with_reducible assumption)|assumption);obtain⟨ad258,e258,Ag,Ah,Ai⟩:=vY HR0.out (Ab) p258 q258;obtain rfl : ad257=ad258:=(by injection e258);replace p258:=eq_true p258;replace q258:=eq_true q258;go_wp2
        repeat(go_quiet (fail);try go_wp2)
        go_roundg k1
        case measure=>have:=HK1.out;omega
        case rel=>exact⟨(wrap64 (Aa + 1)),(by first|rfl|(simp;done)|(simp [*];done)),H',⟨by have:=HK1.out;omega⟩,by repeat(first|exact qz.refl _|apply qz.step)⟩
       ·rw [if_neg c7] at H
        have c7b0 : (Op.bytesLess (((qj l0 (Ab)).f0).toList) (((qj l0 Aa).f0).toList))=false:=by simpa using c7
        clear c7;obtain rfl:=Option.some.inj H;have p257 : 0≤(Aa : Int):=of_decide_eq_true (by first|(with_reducible assumption)|assumption);have q257 : Aa<(l0.length : Int):=of_decide_eq_true (by first|(with_reducible assumption)|assumption);obtain⟨ad257,e257,Ad,Ae,Af⟩:=vY HR0.out Aa p257 q257
        cases e257
        replace p257:=eq_true p257;replace q257:=eq_true q257;have p258 : 0≤((Ab) : Int):=of_decide_eq_true (by first|(with_reducible assumption)|assumption);have q258 : (Ab)<(l0.length : Int):=of_decide_eq_true (by first|(with_reducible assumption)|assumption);obtain⟨ad258,e258,Ag,Ah,Ai⟩:=vY HR0.out (Ab) p258 q258;obtain rfl : ad257=ad258:=(by injection e258);replace p258:=eq_true p258;replace q258:=eq_true q258;go_wp2
        repeat(go_quiet (fail);try go_wp2)
        go_ret
        exact⟨by first|rfl|(simp;done)|(simp only [← Ac] <;> (first|rfl|simp))|(simp [*];done),by repeat(first|exact qz.refl _|apply qz.step)⟩
      ·rw [if_neg c6] at H
       exact absurd H (by simp)
     ·rw [if_neg c5] at H
      exact absurd H (by simp)
    ·rw [if_neg c3] at H
     exact absurd H (by simp)
   ·rw [if_neg c2] at H
    have c2b0 : decide (Aa<(l0.length : Int))=false:=decide_eq_false c2;clear c2;obtain rfl:=Option.some.inj H;go_wp2
    repeat(go_quiet (fail);try go_wp2)
    go_ret
    exact⟨by first|rfl|(simp;done)|(simp [*];done),by repeat(first|exact qz.refl _|apply qz.step)⟩
end Go.Proofs.YtalpmbeddldfoaaDoor.PA
end
section
section
namespace Go.Proofs.YtalpmbeddldfoaaDoor.PA
open Go.RowKit Go.Proofs.YtalpmbeddldfoaaDoor.Hand Go.Proofs.YtalpmbeddldfoaaDoorW.PrintWords Go.Proofs.YtalpmbeddldfoaaDoorW.PrintLast Go.Proofs.YtalpmbeddldfoaaDoorW.PrintMore
attribute [local go_sem] vW vV zc zb vG vF vU vT
attribute [local go_sem high] za zd ze
set_option linter.unusedVariables false
set_option linter.unusedSimpArgs false
def vJ.l0 : Nat→List (vP)→ByteArray→Int→Int→Option (Int × Bool)
 | 0,_,_,_,_=>none
 | k + 1,x0,x1,x6,x7=>if x6<x7 then(if 0≤(wrap64 ((IntKind.u64.wrap (wrap64 (x6 + x7))) / 2)) then(if(wrap64 ((IntKind.u64.wrap (wrap64 (x6 + x7))) / 2))<(x0.length : Int) then(if(Op.bytesLess (((qj x0 (wrap64 ((IntKind.u64.wrap (wrap64 (x6 + x7))) / 2))).f0).toList) x1.toList)=true then(vJ.l0 k x0 x1 (wrap64 ((wrap64 ((IntKind.u64.wrap (wrap64 (x6 + x7))) / 2)) + 1)) x7) else(vJ.l0 k x0 x1 x6 (wrap64 ((IntKind.u64.wrap (wrap64 (x6 + x7))) / 2)))) else(none)) else(none)) else(if x6<(x0.length : Int) then(if 0≤x6 then(some (x6,(((qj x0 x6).f0).toList == x1.toList))) else(none)) else(some (x6,false)))
def vJ.f(k : Nat)(l0 : List (vP))(a1 : ByteArray) : Option (Int × Bool):=vJ.l0 k l0 a1 0 (l0.length : Int)
theorem vJ.mono_l : ∀ k,(∀ y0 y1 y2 y3,qR (vJ.l0 k y0 y1 y2 y3) (vJ.l0 (k + 1) y0 y1 y2 y3))
 | 0=>fun _ _ _ _ r h=>by simp [vJ.l0] at h
 | k + 1=>by
  have ih0:=vJ.mono_l k
  ·intro y0 y1 y2 y3
   unfold vJ.l0
   repeat' first
   | (with_reducible exact ih0 _ _ _ _)
   | (with_reducible exact qR.refl _)
   | (with_reducible exact qR.none _)
   | (with_reducible refine qR.ite ?_ ?_)
   | (with_reducible refine qR.bind ?_ (fun _=>?_))
   | exact ih0 _ _ _ _
   | exact qR.none _
   | refine qR.ite ?_ ?_
   | refine qR.bind ?_ (fun _=>?_)
theorem vJ.mono : ∀ a0 a1 k,qR (vJ.f k a0 a1) (vJ.f (k + 1) a0 a1):=by
 intro a0 a1 k;have ih0:=vJ.mono_l k;unfold vJ.f
 repeat' first
  | (with_reducible exact ih0 _ _ _ _)
  | (with_reducible exact qR.refl _)
  | (with_reducible exact qR.none _)
  | (with_reducible refine qR.ite ?_ ?_)
  | (with_reducible refine qR.bind ?_ (fun _=>?_))
  | exact ih0 _ _ _ _
  | exact qR.none _
  | refine qR.ite ?_ ?_
  | refine qR.bind ?_ (fun _=>?_)
set_option maxHeartbeats 8000000 in
set_option maxRecDepth 100000 in
theorem vJ.calls(k : Nat)(A0 : Option Addr)(c0 : Nat)(l0 : List (vP))(a1 : ByteArray)(r1 : Int)(r2 : Bool)(w : World)(hr0 : Kd.C zM w A0 l0.length l0)(hc0 : l0.length≤c0)(h : vJ.f k l0 a1=some (r1,r2)) :
 Calls Tryd.prog 85 #[.slice A0 l0.length c0,.string a1] w fun e w'=>e = .returned (.tuple #[.int .i64 r1,.bool r2])∧Below w.heap.size w w':=by
 have e : ∀ k i j,vJ.l0 k l0 a1 i j=bs (l0.length : Int) (fun i=>Lib.compareBytes (qj l0 i).f0.data.toList a1.data.toList) k i j:=by
  intro k
  induction k with
  | zero=>intro i j;rfl
  | succ k ih=>intro i j;simp only [vJ.l0,bs,jS,jG,Lib.toList_data,ih]
 have h':=(e k 0 (l0.length : Int)).symm.trans h;clear e h;have HR:=qb.mk hr0;have HC:=qb.mk hc0;have HH:=qb.mk h';clear hr0 hc0 h';go_enter Tryd.func85,Tryd.ntmps85
 go_wp2_with (go_at_call 119;refine(Vw k _ _ l0 a1 r1 r2 _ HR.out HC.out HH.out).mono ?_;rintro e w2 ⟨rfl,hb2⟩;have HB:=qb.mk hb2;clear hb2)
 go_ret2
 exact⟨rfl,HB.out⟩
end Go.Proofs.YtalpmbeddldfoaaDoor.PA
end
section
section
/- The closures handed to slices.ContainsFunc. -/
set_option linter.unusedVariables false
namespace Go.Proofs.YtalpmbeddldfoaaDoor.PA
open Go.RowKit Go.Proofs.YtalpmbeddldfoaaDoorW.PrintWords Go.Proofs.YtalpmbeddldfoaaDoorW.PrintLast Go.Proofs.YtalpmbeddldfoaaDoorW.PrintMore
def QU (x : vP) : Bool := decide (x.f2 < 1) || decide (4294967296 < x.f2)
theorem odd_walk (W : World) (x : vP) : Calls Tryd.prog 88 #[.agg #[.string (x).f0, .string (x).f1, .int .i64 (x).f2]] W fun e w' => e = .returned (.bool (QU x)) ∧ Below W.heap.size W w' := by
 have HB := (Below.refl W.heap.size W).alloc (Nat.le_refl _) (.cells #[.string (x).f0, .string (x).f1, .int .i64 (x).f2] 50)
 by_cases h1 : x.f2 < 1
 ·have c1 : decide (x.f2 < 1) = true := decide_eq_true h1
  have hr : QU x = true := by unfold QU; rw [c1]; rfl
  rw [hr]
  clear hr h1
  go_enter Tryd.func88, Tryd.ntmps88
  go_wp2
  go_ret
  exact ⟨rfl, HB⟩
 ·have c1 : decide (x.f2 < 1) = false := decide_eq_false h1
  have hr : QU x = decide (4294967296 < x.f2) := by unfold QU; rw [c1]; rfl
  rw [hr]
  clear hr h1
  go_enter Tryd.func88, Tryd.ntmps88
  go_wp2
  go_ret
  exact ⟨rfl, HB⟩
def VZ (x : zo) : Bool := x.f2.f5 != 0
theorem rev_walk (W : World) (x : zo) : Calls Tryd.prog 75 #[.agg #[.int .i64 (x).f0, .int .i64 (x).f1, .int .i64 (x).f2.f0, .int .i64 (x).f2.f1, .int .i64 (x).f2.f2, .bool (x).f2.f3, .string (x).f2.f4, .int .i64 (x).f2.f5]] W fun e w' => e = .returned (.bool (VZ x)) ∧ Below W.heap.size W w' := by
 have HB := (Below.refl W.heap.size W).alloc (Nat.le_refl _) (.cells #[.int .i64 (x).f0, .int .i64 (x).f1, .int .i64 (x).f2.f0, .int .i64 (x).f2.f1, .int .i64 (x).f2.f2, .bool (x).f2.f3, .string (x).f2.f4, .int .i64 (x).f2.f5] 74)
 unfold VZ
 go_enter Tryd.func75, Tryd.ntmps75
 go_wp2
 go_ret
 exact ⟨rfl, HB⟩
end Go.Proofs.YtalpmbeddldfoaaDoor.PA
end
section
namespace Go.Proofs.YtalpmbeddldfoaaDoor.PA
open Go.RowKit Go.Proofs.YtalpmbeddldfoaaDoor.Hand Go.Proofs.YtalpmbeddldfoaaDoorW.PrintWords Go.Proofs.YtalpmbeddldfoaaDoorW.PrintLast Go.Proofs.YtalpmbeddldfoaaDoorW.PrintMore
attribute [local go_sem] vW vV zc zb vG vF vU vT
attribute [local go_sem high] za zd ze
set_option linter.unusedVariables false
set_option linter.unusedSimpArgs false
def vX.f(k : Nat)(a0 : ByteArray) : Option (Bool):=if(a0.size : Int) > 1073741824 then(if 0≤(a0.size : Int) then(if(a0.size : Int)<(a0.size : Int) then(some ((bt a0 (a0.size : Int)) == 0)) else(none)) else(none)) else((qv.f k a0).bind fun t112=>(some t112))
theorem vX.mono : ∀ a0 k,qR (vX.f k a0) (vX.f (k + 1) a0):=by
 intro a0 k;unfold vX.f
 repeat' first
  | (with_reducible exact qv.mono _ _)
  | (with_reducible exact qR.refl _)
  | (with_reducible exact qR.none _)
  | (with_reducible refine qR.ite ?_ ?_)
  | (with_reducible refine qR.bind ?_ (fun _=>?_))
  | exact qv.mono _ _
  | exact qR.none _
  | refine qR.ite ?_ ?_
  | refine qR.bind ?_ (fun _=>?_)
set_option maxHeartbeats 8000000 in
set_option maxRecDepth 100000 in
theorem vX.calls(k : Nat)(a0 : ByteArray)(r : Bool)(w : World)(h : vX.f k a0=some r)(hT : Qp w) :
 Calls Tryd.prog 23 #[.string a0] w fun e w'=>e = .returned (.bool r)∧Below w.heap.size w w':=by
 unfold vX.f at h;by_cases hs : (a0.size : Int) > 1073741824
 ·rw [if_pos hs,if_pos (by omega),if_neg (by omega)] at h
  cases h
 ·rw [if_neg hs] at h
  obtain⟨t,ht,hr⟩:=Option.bind_eq_some_iff.mp h;obtain rfl:=Option.some.inj hr;obtain rfl:=jV (Ev.of (fun k=>qv.mono a0 k) ht) (je a0 (by omega));exact VT a0 (by omega) w hT
end Go.Proofs.YtalpmbeddldfoaaDoor.PA
end
end
end
