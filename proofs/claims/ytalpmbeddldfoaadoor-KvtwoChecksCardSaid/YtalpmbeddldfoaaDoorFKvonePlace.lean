import Derived.Test.YtalpmbeddldfoaaDoorF0
import Derived.Test.YtalpmbeddldfoaaDoorHandB
import Derived.Test.YtalpmbeddldfoaaDoorHandS
namespace Go.Proofs.YtalpmbeddldfoaaDoor.PA
open Go.RowKit Go.Proofs.YtalpmbeddldfoaaDoor.Hand Go.Proofs.YtalpmbeddldfoaaDoorW.PrintWords Go.Proofs.YtalpmbeddldfoaaDoorW.PrintLast Go.Proofs.YtalpmbeddldfoaaDoorW.PrintMore
attribute [local go_sem] vQ vS zc za vH vJ vR vT   -- for this text's walks alone
attribute [local go_sem high] vZ zd zb
set_option linter.unusedVariables false
set_option linter.unusedSimpArgs false
def vk.l0 : Nat→List (vA)→ByteArray→Int→Int→Option (Int × Bool)
 | 0,_,_,_,_=>none
 | k + 1,x0,x1,x6,x7=>if x6<x7 then(if 0≤(wrap64 ((IntKind.u64.wrap (wrap64 (x6 + x7))) / 2)) then(if(wrap64 ((IntKind.u64.wrap (wrap64 (x6 + x7))) / 2))<(x0.length : Int) then(if(Op.bytesLess (((qn x0 (wrap64 ((IntKind.u64.wrap (wrap64 (x6 + x7))) / 2))).f0).toList) x1.toList)=true then(vk.l0 k x0 x1 (wrap64 ((wrap64 ((IntKind.u64.wrap (wrap64 (x6 + x7))) / 2)) + 1)) x7) else(vk.l0 k x0 x1 x6 (wrap64 ((IntKind.u64.wrap (wrap64 (x6 + x7))) / 2)))) else(none)) else(none)) else(if x6<(x0.length : Int) then(if 0≤x6 then(some (x6,(((qn x0 x6).f0).toList == x1.toList))) else(none)) else(some (x6,false)))
def vk.f(k : Nat)(l0 : List (vA))(a1 : ByteArray) : Option (Int × Bool):=vk.l0 k l0 a1 0 (l0.length : Int)
theorem vk.mono_l : ∀ k,(∀ y0 y1 y2 y3,qY (vk.l0 k y0 y1 y2 y3) (vk.l0 (k + 1) y0 y1 y2 y3))
 | 0=>fun _ _ _ _ r h=>by simp [vk.l0] at h
 | k + 1=>by
  have ih0:=vk.mono_l k
  ·intro y0 y1 y2 y3
   unfold vk.l0
   repeat' first
   | (with_reducible exact ih0 _ _ _ _)
   | (with_reducible exact qY.refl _)
   | (with_reducible exact qY.none _)
   | (with_reducible refine qY.ite ?_ ?_)
   | (with_reducible refine qY.bind ?_ (fun _=>?_))
   | exact ih0 _ _ _ _
   | exact qY.none _
   | refine qY.ite ?_ ?_
   | refine qY.bind ?_ (fun _=>?_)
theorem vk.mono : ∀ a0 a1 k,qY (vk.f k a0 a1) (vk.f (k + 1) a0 a1):=by
 intro a0 a1 k;have ih0:=vk.mono_l k;unfold vk.f
 repeat' first
  | (with_reducible exact ih0 _ _ _ _)
  | (with_reducible exact qY.refl _)
  | (with_reducible exact qY.none _)
  | (with_reducible refine qY.ite ?_ ?_)
  | (with_reducible refine qY.bind ?_ (fun _=>?_))
  | exact ih0 _ _ _ _
  | exact qY.none _
  | refine qY.ite ?_ ?_
  | refine qY.bind ?_ (fun _=>?_)
set_option maxHeartbeats 8000000 in
set_option maxRecDepth 100000 in
theorem vk.calls(k : Nat)(A0 : Option Addr)(c0 : Nat)(l0 : List (vA))(a1 : ByteArray)(r1 : Int)(r2 : Bool)(w : World)(hr0 : Kd.C zq w A0 l0.length l0)(hc0 : l0.length≤c0)(h : vk.f k l0 a1=some (r1,r2)) :
 Calls Tryd.prog 85 #[.slice A0 l0.length c0,.string a1] w fun e w'=>e = .returned (.tuple #[.int .i64 r1,.bool r2])∧Below w.heap.size w w':=by
 have e : ∀ k i j,vk.l0 k l0 a1 i j=bs (l0.length : Int) (fun i=>Lib.compareBytes (qn l0 i).f0.data.toList a1.data.toList) k i j:=by
  intro k
  induction k with
  | zero=>intro i j;rfl
  | succ k ih=>intro i j;simp only [vk.l0,bs,compareBytes_neg,compareBytes_zero,Lib.toList_data,ih]
 have h':=(e k 0 (l0.length : Int)).symm.trans h;clear e h;have HR:=qd.mk hr0;have HC:=qd.mk hc0;have HH:=qd.mk h';clear hr0 hc0 h';go_enter Tryd.func85,Tryd.ntmps85
 go_wp2_with (go_at_call 119;refine(bsf_kvone_place k _ _ l0 a1 r1 r2 _ HR.out HC.out HH.out).mono ?_;rintro e w2 ⟨rfl,hb2⟩;have HB:=qd.mk hb2;clear hb2)
 go_ret2
 exact⟨rfl,HB.out⟩
end Go.Proofs.YtalpmbeddldfoaaDoor.PA
