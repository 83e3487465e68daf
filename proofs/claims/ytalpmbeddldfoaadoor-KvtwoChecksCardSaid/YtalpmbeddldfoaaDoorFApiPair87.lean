import Derived.Test.YtalpmbeddldfoaaDoorF0
import Derived.Test.YtalpmbeddldfoaaDoorHandB
import Derived.Test.YtalpmbeddldfoaaDoorHandS
namespace Go.Proofs.YtalpmbeddldfoaaDoor.PA
open Go.RowKit Go.Proofs.YtalpmbeddldfoaaDoor.Hand Go.Proofs.YtalpmbeddldfoaaDoorW.PrintWords Go.Proofs.YtalpmbeddldfoaaDoorW.PrintLast Go.Proofs.YtalpmbeddldfoaaDoorW.PrintMore
attribute [local go_sem] vQ vS zc za vH vJ vR vT   -- for this text's walks alone
attribute [local go_sem high] vZ zd zb
set_option linter.unusedVariables false
set_option linter.unusedSimpArgs false
def vY.f(l0 : List (vA)) : Option ((List (vA))):=(some (([] : List (vA)) : List (vA))).bind fun y185=>(if y185.length + l0.length<3518437208883 then(some (y185 ++ l0)) else(none))
set_option maxHeartbeats 8000000 in
set_option maxRecDepth 100000 in
theorem vY.calls(A0 : Option Addr)(c0 : Nat)(l0 : List (vA))(r : List (vA))(w : World)(hr0 : Kd.C zq w A0 l0.length l0)(hc0 : l0.length≤c0)(h : vY.f l0=some r) :
 Calls Tryd.prog 87 #[.slice A0 l0.length c0] w fun e w'=>∃ v0_ : Value,e = .returned (v0_)∧Kd.R zq 50 w' w.heap.size (fun _=>True) v0_ r∧Below w.heap.size w w':=by
 have HR0:=qd.mk hr0;have HC0:=qd.mk hc0;clear hr0 hc0;have HB:=qd.mk (Below.refl w.heap.size w);have H : ((some (([] : List (vA)) : List (vA))).bind fun y185=>(if y185.length + l0.length<3518437208883 then(some (y185 ++ l0)) else(none)))=some r:=h;clear h;obtain⟨y185,hy185⟩ : ∃ y_ : List (vA),y_=(([] : List (vA))):=⟨_,rfl⟩;replace H : (if y185.length + l0.length<3518437208883 then(some (y185 ++ l0)) else(none))=some r:=by first|(rw [hy185];with_reducible exact H)|(have Ab:=(Option.bind_some _ _).symm.trans H;rw [hy185];with_reducible exact Ab)|(have Ab:=(Option.bind_some _ _).symm.trans H;with_reducible exact Ab)|with_reducible exact H|(rw [hy185];exact H)|exact H
 have Ny185:=qd.mk hy185;clear hy185;by_cases c2 : y185.length + l0.length<3518437208883
 ·rw [if_pos c2] at H
  have LMc2:=qd.mk c2;clear c2;obtain⟨y188,hy188⟩ : ∃ y_ : List (vA),y_=(y185 ++ l0):=⟨_,rfl⟩;replace H : (some y188)=some r:=by first|(rw [hy188];with_reducible exact H)|(have Ab:=(Option.bind_some _ _).symm.trans H;rw [hy188];with_reducible exact Ab)|(have Ab:=(Option.bind_some _ _).symm.trans H;with_reducible exact Ab)|with_reducible exact H|(rw [hy188];exact H)|exact H
  have Ny188:=qd.mk hy188;clear hy188;obtain rfl:=Option.some.inj H;have qnil : ∀ (w : World) (a : Option Addr) (n c : Nat),(binOp .eql 32 (.slice a n c) (.slice none 0 0)).run Tryd.prog w = .ok (.bool a.isNone) w:=fun w a n c=>Lib.run_eql_slice_nil w _ _ a n c 0 0 Tryd.underlying32
  cases A0 with
  | none=>
   have e0 : l0.length=0:=by
    rcases Nat.eq_zero_or_pos l0.length with h0|h0
    ·exact h0
    ·obtain⟨ad_,ea_,_⟩:=HR0.out.2.2 h0
     cases ea_
   have e1 : l0 = []:=List.eq_nil_of_length_eq_zero e0;subst e1;have hq:=qnil;go_enter Tryd.func87,Tryd.ntmps87
   go_wp2
   go_ret
   exact⟨_,rfl,by rw [Ny188.out,Ny185.out];exact Kd.R_nil _ _ _ _ _,Below.refl _ _⟩
  | some ad0=>
   go_enter Tryd.func87,Tryd.ntmps87
   go_wp2_with (first|((with_reducible refine vo (N:=5) rfl ?_);refine Kd.R_lit zq _ 50 ?hg (N:=5) ?hd (xs:=([] : List (vA))) (inner:=[]) (ok:=fun _=>True) (okp:=fun _=>True) ?hr ?hp (fun _ hk=>hk) trivial (Below.refl _ _) (Nat.le_refl _) (by simp) ?_;(case hd=>rfl);(case hg=>rfl);(case hr=>first|(go_simp;done)|(go_simp;rfl));(case hp=>exact(zg.none _ _));intro v186 w3 ho4 hb hg_ hnew_;clear hg_ hnew_;(first|rw [← Ny185.out] at ho4|(simp only [Int.reduceToNat] at ho4;rw [← Ny185.out] at ho4));have n0_:=qd.mk (Kd.zj ho4 (qz (by repeat(first|(with_reducible first|exact HB.out|apply qi|apply qe|apply qh)|exact HB.out))));have n1_:=qd.mk (qt (by repeat(first|(with_reducible first|exact HB.out|apply qi|apply qe|apply qh)|exact HB.out)) hb);clear HB;have Aa:=n0_;have HB:=n1_;clear n0_ n1_;clear hb ho4)|((with_reducible refine gate_builtin (b:=.append) (xs:=#[.tmp 5,.tmp 6]) rfl ?_);at_builtin;refine Kd.R_append_rows zq (w0:=w) w.heap.size rfl (.tmp 5) (.tmp 6) 32 50 (.agg #[(.string ⟨#[]⟩),(.string ⟨#[]⟩),(.int .i64 0)]) 40 rfl Tryd.underlying32 info50 rfl (by decide) (by omega) v186 y185 l0 _ _ _ (fun _=>True) (fun _=>False) rfl rfl ?aO ?aR (fun _ _ h=>h) (fun _ h=>h.elim) ?aF ?aB ?aS ?aL ?_;(case aR=>repeat(first|exact(Kd.ze HR0.out HB.out)|(with_reducible refine Kd.vN ?_ _)|(with_reducible refine Kd.vP ?_ _)|(with_reducible refine Kd.vX ?_)));(case aB=>exact(by repeat(first|(with_reducible first|exact HB.out|apply qi|apply qe|apply qh)|exact HB.out)));(case aF=>exact(fun _ _=>trivial));(case aO=>exact(by(with_reducible repeat(first|apply Kd.qJ|apply Kd.qK|apply Kd.qN));exact Aa.out));(case aS=>exact(qz (by repeat(first|(with_reducible first|exact HB.out|apply qi|apply qe|apply qh)|exact HB.out))));(case aL=>have:=LMc2.out;omega);intro v189 w5 ho hb hg hat;rw [← Ny188.out] at ho;have n0_:=qd.mk (hb);have n1_:=qd.mk (ho);clear HB;clear Aa;have HB:=n0_;have HO190:=n1_;clear n0_ n1_;clear ho hb hg hat))
   go_ret
   exact⟨_,by first|rfl|(simp [qQ,qP] <;> rfl)|(simp [*,qQ,qP] <;> rfl),by(with_reducible repeat(first|apply Kd.qJ|apply Kd.qK|apply Kd.qN));exact HO190.out,by repeat(first|(with_reducible first|exact HB.out|apply qi|apply qe|apply qh)|exact HB.out)⟩
 ·rw [if_neg c2] at H
  exact absurd H (by simp)
end Go.Proofs.YtalpmbeddldfoaaDoor.PA
