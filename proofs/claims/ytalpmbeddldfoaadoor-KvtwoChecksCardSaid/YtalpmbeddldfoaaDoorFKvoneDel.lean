import Derived.Test.YtalpmbeddldfoaaDoorF0
import Derived.Test.YtalpmbeddldfoaaDoorFKvonePlace
import Derived.Test.YtalpmbeddldfoaaDoorFApiPair144
namespace Go.Proofs.YtalpmbeddldfoaaDoor.PA
open Go.RowKit Go.Proofs.YtalpmbeddldfoaaDoor.Hand Go.Proofs.YtalpmbeddldfoaaDoorW.PrintWords Go.Proofs.YtalpmbeddldfoaaDoorW.PrintLast Go.Proofs.YtalpmbeddldfoaaDoorW.PrintMore
attribute [local go_sem] vQ vS zc za vH vJ vR vT   -- for this text's walks alone
attribute [local go_sem high] vZ zd zb
set_option linter.unusedVariables false
set_option linter.unusedSimpArgs false
def zo.f(k : Nat)(l0 : List (vA))(a1 : ByteArray) : Option ((List (vA))):=(vk.f k l0 a1).bind fun bt482=>(if bt482.2=true then((zt.f l0 bt482.1 (wrap64 (bt482.1 + 1))).bind fun Aa=>(some Aa)) else(some l0))
theorem zo.mono : ∀ a0 a1 k,qY (zo.f k a0 a1) (zo.f (k + 1) a0 a1):=by
 intro a0 a1 k;unfold zo.f
 repeat' first
  | (with_reducible exact vk.mono _ _ _)
  | (with_reducible exact qY.refl _)
  | (with_reducible exact qY.none _)
  | (with_reducible refine qY.ite ?_ ?_)
  | (with_reducible refine qY.bind ?_ (fun _=>?_))
  | exact vk.mono _ _ _
  | exact qY.none _
  | refine qY.ite ?_ ?_
  | refine qY.bind ?_ (fun _=>?_)
set_option maxHeartbeats 8000000 in
set_option maxRecDepth 100000 in
theorem zo.calls(k : Nat)(P0_ : Nat→Prop)(u9000_ : Value)(l0 : List (vA))(a1 : ByteArray)(r : List (vA))(w0 w : World)(hB : Below w0.heap.size w0 w)(ho0 : Kd.R zq 50 w w0.heap.size P0_ u9000_ l0)(h : zo.f k l0 a1=some r) :
 Calls Tryd.prog 118 #[u9000_,.string a1] w fun e w'=>∃ v0_ : Value,e = .returned (v0_)∧Kd.R zq 50 w' w0.heap.size (fun k_=>(P0_ k_∨w.heap.size≤k_)) v0_ r∧Below w0.heap.size w0 w'∧Kept w w' (fun k_=>P0_ k_):=by
 have Ac:=qd.mk (show Kd.R zq 50 w w0.heap.size (fun k_=>(P0_ k_∨w.heap.size≤k_)) u9000_ l0 from Kd.vq ho0 (fun k_ hk=>(.inl hk)));have HK:=qd.mk (Kept.refl w (fun k_=>P0_ k_));have HW0:=qd.mk hB.size;have HB:=qd.mk hB;clear hB;have H : ((vk.f k l0 a1).bind fun bt482=>(if bt482.2=true then((zt.f l0 bt482.1 (wrap64 (bt482.1 + 1))).bind fun Aa=>(some Aa)) else(some l0)))=some r:=h;clear h;replace H:=Option.bind_eq_some_iff.mp H;obtain⟨⟨Ab,t483⟩,A30,H⟩:=H;replace H : (if t483=true then((zt.f l0 Ab (wrap64 (Ab + 1))).bind fun Aa=>(some Aa)) else(some l0))=some r:=H;have A3:=qd.mk A30;clear A30;by_cases c4 : t483=true
 ·subst c4
  have H1 : ((zt.f l0 Ab (wrap64 (Ab + 1))).bind fun Aa=>(some Aa))=some r:=by rw [if_pos rfl] at H;exact H
  clear H;have H:=H1;clear H1;replace H:=Option.bind_eq_some_iff.mp H;obtain⟨Aa,A50,H⟩:=H;replace H : (some Aa)=some r:=H;have A5:=qd.mk A50;clear A50;obtain rfl:=Option.some.inj H;obtain⟨Ao6,co6,eo6⟩:=Kd.vK Ac.out;subst eo6;go_enter Tryd.func118,Tryd.ntmps118
  go_wp2_with (first|((with_reducible refine qW (f:=85) rfl ?_);refine vM (some 10) rfl rfl Tryd.func85 (by kernel_rfl) rfl #[.slice Ao6 l0.length co6,.string a1] rfl (by(try simp only [List.map_toArray,List.map_cons,List.map_nil]);first|done|rfl|(simp only [List.length_drop,List.length_take];rfl)) ?_;(with_reducible refine(vk.calls k _ _ l0 a1 Ab true _ ?side1 ?side2 A3.out).mono ?_);(case side1=>repeat(first|exact(Kd.vu Ac.out).2.2|(with_reducible refine Kd.vN ?_ _)|(with_reducible refine Kd.vP ?_ _)|(with_reducible refine Kd.vX ?_)));(case side2=>exact(Kd.vu Ac.out).2.1);rintro e w7 ⟨rfl,hb⟩;refine⟨_,rfl,?_⟩;have Ad:=qd.mk (Kd.vr (by(with_reducible repeat(first|apply Kd.qJ|apply Kd.qK|apply Kd.qN));exact Ac.out) hb);have Ae:=qd.mk (Kept.below (S:=(fun k_=>P0_ k_)) (by repeat(first|(with_reducible first|exact HK.out|apply Kept.alloc|apply Kept.drewN|apply Kept.drew)|exact HK.out)) hb);have Af:=qd.mk (qt (by repeat(first|(with_reducible first|exact HB.out|apply qi|apply qe|apply qh)|exact HB.out)) hb);clear Ac;clear HK;clear HB;have Ac:=Ad;have HK:=Ae;have HB:=Af;clear Ad Ae Af;(try clear hb);(try clear hb2);(try clear hk);(try clear hi))|((with_reducible refine qW (f:=144) rfl ?_);refine vM (some 18) rfl rfl Tryd.func144 (by kernel_rfl) rfl #[.slice Ao6 l0.length co6,.int .i64 Ab,.int .i64 (wrap64 (Ab + 1))] rfl (by(try simp only [List.map_toArray,List.map_cons,List.map_nil]);first|done|rfl|(simp only [List.length_drop,List.length_take];rfl)) ?_;(with_reducible refine(zt.calls (fun k_=>some k_=(.slice Ao6 l0.length co6 : Value).ownBlock) (.slice Ao6 l0.length co6) l0 Ab (wrap64 (Ab + 1)) Aa w0 _ ?side1 ?side2 A5.out).mono ?_);(case side1=>repeat(first|(with_reducible first|exact HB.out|apply qi|apply qe|apply qh)|exact HB.out));(case side2=>exact Kd.R_tight rfl Ac.out);rintro e w8 ⟨v485,rfl,ho0,hb,hkp⟩;refine⟨_,rfl,?_⟩;have Ad:=qd.mk (Kd.vq (ok':=fun k_=>(P0_ k_∨w.heap.size≤k_)) ho0 (fun k_ hk_=>Or.elim hk_ (fun hs_=>(Ac.out.1 k_ (hs_).symm)) (fun hn_=>(.inr (Nat.le_trans (by first|exact HK.out.1|exact(show Kept w _ (fun k_=>P0_ k_) from by repeat(first|(with_reducible first|exact HK.out|apply Kept.alloc|apply Kept.drewN|apply Kept.drew)|exact HK.out)).1) hn_)))));have Ae:=qd.mk (Kept.then_ (S:=(fun k_=>P0_ k_)) (by repeat(first|(with_reducible first|exact HK.out|apply Kept.alloc|apply Kept.drewN|apply Kept.drew)|exact HK.out)) hkp (fun k_ hs_=>(fun e_=>(Ac.out.1 k_ e_.symm)) hs_));have Af:=qd.mk (hb);clear HK;clear HB;clear Ac;have HO486:=Ad;have HK:=Ae;have HB:=Af;clear Ad Ae Af;(try clear hb);(try clear hkp);(try clear ho0)))
  go_ret
  exact⟨_,by first|rfl|(simp [qQ,qP] <;> rfl)|(simp [*,qQ,qP] <;> rfl),by(with_reducible repeat(first|apply Kd.qJ|apply Kd.qK|apply Kd.qN));exact HO486.out,by repeat(first|(with_reducible first|exact HB.out|apply qi|apply qe|apply qh)|exact HB.out),by repeat(first|(with_reducible first|exact HK.out|apply Kept.alloc|apply Kept.drewN|apply Kept.drew)|exact HK.out)⟩
 ·replace c4:=Bool.eq_false_iff.mpr c4
  subst c4;have H1 : (some l0)=some r:=by rw [if_neg (show ¬ (false=true) by decide)] at H;exact H
  clear H;have H:=H1;clear H1;obtain rfl:=Option.some.inj H;obtain⟨Ao9,co9,eo9⟩:=Kd.vK Ac.out;subst eo9;go_enter Tryd.func118,Tryd.ntmps118
  go_wp2_with (first|((with_reducible refine qW (f:=85) rfl ?_);refine vM (some 10) rfl rfl Tryd.func85 (by kernel_rfl) rfl #[.slice Ao9 l0.length co9,.string a1] rfl (by(try simp only [List.map_toArray,List.map_cons,List.map_nil]);first|done|rfl|(simp only [List.length_drop,List.length_take];rfl)) ?_;(with_reducible refine(vk.calls k _ _ l0 a1 Ab false _ ?side1 ?side2 A3.out).mono ?_);(case side1=>repeat(first|exact(Kd.vu Ac.out).2.2|(with_reducible refine Kd.vN ?_ _)|(with_reducible refine Kd.vP ?_ _)|(with_reducible refine Kd.vX ?_)));(case side2=>exact(Kd.vu Ac.out).2.1);rintro e w10 ⟨rfl,hb⟩;refine⟨_,rfl,?_⟩;have Ad:=qd.mk (Kd.vr (by(with_reducible repeat(first|apply Kd.qJ|apply Kd.qK|apply Kd.qN));exact Ac.out) hb);have Ae:=qd.mk (Kept.below (S:=(fun k_=>P0_ k_)) (by repeat(first|(with_reducible first|exact HK.out|apply Kept.alloc|apply Kept.drewN|apply Kept.drew)|exact HK.out)) hb);have Af:=qd.mk (qt (by repeat(first|(with_reducible first|exact HB.out|apply qi|apply qe|apply qh)|exact HB.out)) hb);clear Ac;clear HK;clear HB;have Ac:=Ad;have HK:=Ae;have HB:=Af;clear Ad Ae Af;(try clear hb);(try clear hb2);(try clear hk);(try clear hi)))
  go_ret
  exact⟨_,by first|rfl|(simp [qQ,qP] <;> rfl)|(simp [*,qQ,qP] <;> rfl),by(with_reducible repeat(first|apply Kd.qJ|apply Kd.qK|apply Kd.qN));exact Ac.out,by repeat(first|(with_reducible first|exact HB.out|apply qi|apply qe|apply qh)|exact HB.out),by repeat(first|(with_reducible first|exact HK.out|apply Kept.alloc|apply Kept.drewN|apply Kept.drew)|exact HK.out)⟩
end Go.Proofs.YtalpmbeddldfoaaDoor.PA
