import Derived.Test.YtalpmbeddldfoaaDoorF0
import Derived.Test.YtalpmbeddldfoaaDoorFRunesVal
import Derived.Test.YtalpmbeddldfoaaDoorHandAnswer
import Derived.Test.YtalpmbeddldfoaaDoorPKeyVal
import Derived.Test.YtalpmbeddldfoaaDoorHandD
import Derived.Test.YtalpmbeddldfoaaDoorHandB
import Derived.Test.YtalpmbeddldfoaaDoorHandS
section
namespace Go.Proofs.YtalpmbeddldfoaaDoor.PA
open Go.RowKit Go.Proofs.YtalpmbeddldfoaaDoor.Hand Go.Proofs.YtalpmbeddldfoaaDoorW.PrintWords Go.Proofs.YtalpmbeddldfoaaDoorW.PrintLast Go.Proofs.YtalpmbeddldfoaaDoorW.PrintMore
attribute [local go_sem] vW vV zc zb vG vF vU vT
attribute [local go_sem high] za zd ze
set_option linter.unusedVariables false
set_option linter.unusedSimpArgs false
def qY.j0 : Nat→Bool→Int→Int→Int→Bool→ByteArray→Int→Option (Int)
 | 0,_,_,_,_,_,_,_=>none
 | k + 1,x42,x172000,x172001,x172002,x172003,Aa,x172005=>if x42=true then(some 6) else((vX.f k Aa).bind fun t173=>(if t173=true then(some 0) else(some 7)))
def qY.f(k : Nat)(a0_0 : Int)(a0_1 : Int)(a0_2 : Int)(a0_3 : Bool)(a0_4 : ByteArray)(a0_5 : Int) : Option (Int):=if a0_0<1 then(qY.j0 k true a0_0 a0_1 a0_2 a0_3 a0_4 a0_5) else(if a0_0 > 8 then(qY.j0 k true a0_0 a0_1 a0_2 a0_3 a0_4 a0_5) else(if a0_1<1 then(qY.j0 k true a0_0 a0_1 a0_2 a0_3 a0_4 a0_5) else(if a0_1 > 4294967296 then(qY.j0 k true a0_0 a0_1 a0_2 a0_3 a0_4 a0_5) else(if a0_2<0 then(qY.j0 k true a0_0 a0_1 a0_2 a0_3 a0_4 a0_5) else(if a0_2 > 17 then(qY.j0 k true a0_0 a0_1 a0_2 a0_3 a0_4 a0_5) else(if a0_5<0 then(qY.j0 k true a0_0 a0_1 a0_2 a0_3 a0_4 a0_5) else(qY.j0 k (decide (a0_5 > 4294967296)) a0_0 a0_1 a0_2 a0_3 a0_4 a0_5)))))))
theorem qY.mono_l : ∀ k,(∀ y0 y1 y2 y3 y4 y5 y6,qR (qY.j0 k y0 y1 y2 y3 y4 y5 y6) (qY.j0 (k + 1) y0 y1 y2 y3 y4 y5 y6))
 | 0=>fun _ _ _ _ _ _ _ r h=>by simp [qY.j0] at h
 | k + 1=>by
  have ih0:=qY.mono_l k
  ·intro y0 y1 y2 y3 y4 y5 y6
   unfold qY.j0
   repeat' first
   | (with_reducible exact ih0 _ _ _ _ _ _ _)
   | (with_reducible exact vX.mono _ _)
   | (with_reducible exact qR.refl _)
   | (with_reducible exact qR.none _)
   | (with_reducible refine qR.ite ?_ ?_)
   | (with_reducible refine qR.bind ?_ (fun _=>?_))
   | exact ih0 _ _ _ _ _ _ _
   | exact vX.mono _ _
   | exact qR.none _
   | refine qR.ite ?_ ?_
   | refine qR.bind ?_ (fun _=>?_)
theorem qY.mono : ∀ a0 a1 a2 a3 a4 a5 k,qR (qY.f k a0 a1 a2 a3 a4 a5) (qY.f (k + 1) a0 a1 a2 a3 a4 a5):=by
 intro a0 a1 a2 a3 a4 a5 k;have ih0:=qY.mono_l k;unfold qY.f
 repeat' first
  | (with_reducible exact ih0 _ _ _ _ _ _ _)
  | (with_reducible exact vX.mono _ _)
  | (with_reducible exact qR.refl _)
  | (with_reducible exact qR.none _)
  | (with_reducible refine qR.ite ?_ ?_)
  | (with_reducible refine qR.bind ?_ (fun _=>?_))
  | exact ih0 _ _ _ _ _ _ _
  | exact vX.mono _ _
  | exact qR.none _
  | refine qR.ite ?_ ?_
  | refine qR.bind ?_ (fun _=>?_)
set_option maxHeartbeats 8000000 in
set_option maxRecDepth 100000 in
theorem qY.calls(k : Nat)(a0_0 : Int)(a0_1 : Int)(a0_2 : Int)(a0_3 : Bool)(a0_4 : ByteArray)(a0_5 : Int)(r : Int)(w : World)(h : qY.f k a0_0 a0_1 a0_2 a0_3 a0_4 a0_5=some r)(hT : Qp w) :
 Calls Tryd.prog 83 #[.agg #[.int .i64 a0_0,.int .i64 a0_1,.int .i64 a0_2,.bool a0_3,.string a0_4,.int .i64 a0_5]] w fun e w'=>e = .returned (.int .i64 r)∧Below w.heap.size w w':=by
 by_cases hn : numB a0_0 a0_1 a0_2 a0_5=true
 ·have hn':=of_decide_eq_true hn
  have hf : qY.f k a0_0 a0_1 a0_2 a0_3 a0_4 a0_5=qY.j0 k false a0_0 a0_1 a0_2 a0_3 a0_4 a0_5:=by
   unfold qY.f;rw [if_neg (by omega),if_neg (by omega),if_neg (by omega),if_neg (by omega),if_neg (by omega),if_neg (by omega),if_neg (by omega),decide_eq_false (by omega)]
  rw [hf] at h
  cases k with
  | zero=>simp [qY.j0] at h
  | succ k=>
   simp only [qY.j0] at h;rw [if_neg (by simp)] at h;obtain⟨t,ht,hr⟩:=Option.bind_eq_some_iff.mp h;unfold vX.f at ht;by_cases hs : (a0_4.size : Int) > 1073741824
   ·rw [if_pos hs,if_pos (by omega),if_neg (by omega)] at ht
    cases ht
   ·rw [if_neg hs] at ht
    obtain⟨t',ht',hr'⟩:=Option.bind_eq_some_iff.mp ht;obtain rfl:=Option.some.inj hr';obtain rfl:=jV (Ev.of (fun k=>qv.mono a0_4 k) ht') (je a0_4 (by omega))
    have e : jR a0_0 a0_1 a0_2 a0_4 a0_5=r:=by
     unfold jR;rw [if_pos hn]
     cases hv : jK a0_4
     ·rw [hv] at hr
      rw [if_neg (by simp)] at hr ⊢;exact Option.some.inj hr
     ·rw [hv] at hr
      rw [if_pos rfl] at hr ⊢;exact Option.some.inj hr
    rw [← e];exact ans_walk a0_0 a0_1 a0_2 a0_3 a0_4 a0_5 (fun _=>by omega) w hT
 ·have hf : qY.f k a0_0 a0_1 a0_2 a0_3 a0_4 a0_5=qY.j0 k true a0_0 a0_1 a0_2 a0_3 a0_4 a0_5:=by
   unfold qY.f
   repeat' split
   all_goals first|rfl|skip
   rw [decide_eq_true];exact Classical.byContradiction fun hh=>hn (decide_eq_true (by omega))
  rw [hf] at h
  cases k with
  | zero=>simp [qY.j0] at h
  | succ k=>
   simp only [qY.j0] at h
   have e : jR a0_0 a0_1 a0_2 a0_4 a0_5=r:=by
    unfold jR;rw [if_neg hn]
    simpa using h
   rw [← e];exact ans_walk a0_0 a0_1 a0_2 a0_3 a0_4 a0_5 (fun hh=>absurd hh hn) w hT
end Go.Proofs.YtalpmbeddldfoaaDoor.PA
end
section
namespace Go.Proofs.YtalpmbeddldfoaaDoor.PA
open Go.RowKit Go.Proofs.YtalpmbeddldfoaaDoor.Hand Go.Proofs.YtalpmbeddldfoaaDoorW.PrintWords Go.Proofs.YtalpmbeddldfoaaDoorW.PrintLast Go.Proofs.YtalpmbeddldfoaaDoorW.PrintMore
attribute [local go_sem] vW vV zc zb vG vF vU vT
attribute [local go_sem high] za zd ze
set_option linter.unusedVariables false
set_option linter.unusedSimpArgs false
def zH.f(l0 : List (vP)) : Option ((List (vP))):=(some (([] : List (vP)) : List (vP))).bind fun y185=>(if y185.length + l0.length<3518437208883 then(some (y185 ++ l0)) else(none))
set_option maxHeartbeats 8000000 in
set_option maxRecDepth 100000 in
theorem zH.calls(A0 : Option Addr)(c0 : Nat)(l0 : List (vP))(r : List (vP))(w : World)(hr0 : Kd.C zM w A0 l0.length l0)(hc0 : l0.length≤c0)(h : zH.f l0=some r) :
 Calls Tryd.prog 87 #[.slice A0 l0.length c0] w fun e w'=>∃ v0_ : Value,e = .returned (v0_)∧Kd.R zM 50 w' w.heap.size (fun _=>True) v0_ r∧Below w.heap.size w w':=by
 have HR0:=qb.mk hr0;have HC0:=qb.mk hc0;clear hr0 hc0;have HB:=qb.mk (Below.refl w.heap.size w);have H : ((some (([] : List (vP)) : List (vP))).bind fun y185=>(if y185.length + l0.length<3518437208883 then(some (y185 ++ l0)) else(none)))=some r:=h;clear h;obtain⟨y185,hy185⟩ : ∃ y_ : List (vP),y_=(([] : List (vP))):=⟨_,rfl⟩;replace H : (if y185.length + l0.length<3518437208883 then(some (y185 ++ l0)) else(none))=some r:=by first|(rw [hy185];with_reducible exact H)|(have Ab:=(Option.bind_some _ _).symm.trans H;rw [hy185];with_reducible exact Ab)|(have Ab:=(Option.bind_some _ _).symm.trans H;with_reducible exact Ab)|with_reducible exact H|(rw [hy185];exact H)|exact H
 have Ny185:=qb.mk hy185;clear hy185;by_cases c2 : y185.length + l0.length<3518437208883
 ·rw [if_pos c2] at H
  have LMc2:=qb.mk c2;clear c2;obtain⟨y188,hy188⟩ : ∃ y_ : List (vP),y_=(y185 ++ l0):=⟨_,rfl⟩;replace H : (some y188)=some r:=by first|(rw [hy188];with_reducible exact H)|(have Ab:=(Option.bind_some _ _).symm.trans H;rw [hy188];with_reducible exact Ab)|(have Ab:=(Option.bind_some _ _).symm.trans H;with_reducible exact Ab)|with_reducible exact H|(rw [hy188];exact H)|exact H
  have Ny188:=qb.mk hy188;clear hy188;obtain rfl:=Option.some.inj H;have qnil : ∀ (w : World) (a : Option Addr) (n c : Nat),(binOp .eql 32 (.slice a n c) (.slice none 0 0)).run Tryd.prog w = .ok (.bool a.isNone) w:=fun w a n c=>Lib.run_eql_slice_nil w _ _ a n c 0 0 Tryd.underlying32
  cases A0 with
  | none=>
   have e0 : l0.length=0:=by
    rcases Nat.eq_zero_or_pos l0.length with h0|h0
    ·exact h0
    ·obtain⟨ad_,ea_,_⟩:=HR0.out.2.2 h0
     cases ea_
   have e1 : l0 = []:=List.eq_nil_of_length_eq_zero e0;subst e1;have hq:=qnil;go_enter Tryd.func87,Tryd.ntmps87
   go_wp2
   go_ret
   exact⟨_,rfl,by rw [Ny188.out,Ny185.out];exact Kd.QK _ _ _ _ _,Below.refl _ _⟩
  | some ad0=>
   go_enter Tryd.func87,Tryd.ntmps87
   go_wp2_with (first|((with_reducible refine vE (N:=5) rfl ?_);refine Kd.VM zM _ 50 ?hg (N:=5) ?hd (xs:=([] : List (vP))) (inner:=[]) (ok:=fun _=>True) (okp:=fun _=>True) ?hr ?hp (fun _ hk=>hk) trivial (Below.refl _ _) (Nat.le_refl _) (by simp) ?_;(case hd=>rfl);(case hg=>rfl);(case hr=>first|(go_simp;done)|(go_simp;rfl));(case hp=>exact(zj.none _ _));intro v186 w3 ho4 hb hg_ hnew_;clear hg_ hnew_;(first|rw [← Ny185.out] at ho4|(simp only [Int.reduceToNat] at ho4;rw [← Ny185.out] at ho4));have n0_:=qb.mk (Kd.zq ho4 (qG (by repeat(first|(with_reducible first|exact HB.out|apply qd|apply qa|apply qc)|exact HB.out))));have n1_:=qb.mk (qB (by repeat(first|(with_reducible first|exact HB.out|apply qd|apply qa|apply qc)|exact HB.out)) hb);clear HB;have Aa:=n0_;have HB:=n1_;clear n0_ n1_;clear hb ho4)|((with_reducible refine Qb (b:=.append) (xs:=#[.tmp 5,.tmp 6]) rfl ?_);at_builtin;refine Kd.jM zM (w0:=w) w.heap.size rfl (.tmp 5) (.tmp 6) 32 50 (.agg #[(.string ⟨#[]⟩),(.string ⟨#[]⟩),(.int .i64 0)]) 40 rfl Tryd.underlying32 info50 rfl (by decide) (by omega) v186 y185 l0 _ _ _ (fun _=>True) (fun _=>False) rfl rfl ?aO ?aR (fun _ _ h=>h) (fun _ h=>h.elim) ?aF ?aB ?aS ?aL ?_;(case aR=>repeat(first|exact(Kd.vk HR0.out HB.out)|(with_reducible refine Kd.qS ?_ _)|(with_reducible refine Kd.qU ?_ _)|(with_reducible refine Kd.vq ?_)));(case aB=>exact(by repeat(first|(with_reducible first|exact HB.out|apply qd|apply qa|apply qc)|exact HB.out)));(case aF=>exact(fun _ _=>trivial));(case aO=>exact(by(with_reducible repeat(first|apply Kd.vB|apply Kd.vA|apply Kd.vK));exact Aa.out));(case aS=>exact(qG (by repeat(first|(with_reducible first|exact HB.out|apply qd|apply qa|apply qc)|exact HB.out))));(case aL=>have:=LMc2.out;omega);intro v189 w5 ho hb hg hat;rw [← Ny188.out] at ho;have n0_:=qb.mk (hb);have n1_:=qb.mk (ho);clear HB;clear Aa;have HB:=n0_;have HO190:=n1_;clear n0_ n1_;clear ho hb hg hat))
   go_ret
   exact⟨_,by first|rfl|(simp [qK,qL] <;> rfl)|(simp [*,qK,qL] <;> rfl),by(with_reducible repeat(first|apply Kd.vB|apply Kd.vA|apply Kd.vK));exact HO190.out,by repeat(first|(with_reducible first|exact HB.out|apply qd|apply qa|apply qc)|exact HB.out)⟩
 ·rw [if_neg c2] at H
  exact absurd H (by simp)
end Go.Proofs.YtalpmbeddldfoaaDoor.PA
end
