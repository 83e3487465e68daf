import Derived.Test.YtalpmbeddldfoaaDoorF0
namespace Go.Proofs.YtalpmbeddldfoaaDoor.PA
open Go.RowKit Go.Proofs.YtalpmbeddldfoaaDoor.Hand Go.Proofs.YtalpmbeddldfoaaDoorW.PrintWords Go.Proofs.YtalpmbeddldfoaaDoorW.PrintLast Go.Proofs.YtalpmbeddldfoaaDoorW.PrintMore
attribute [local go_sem] vQ vS zc za vH vJ vR vT   -- for this text's walks alone
attribute [local go_sem high] vZ zd zb
set_option linter.unusedVariables false
set_option linter.unusedSimpArgs false
def zG.f(a0 : Int) : Option (Int):=some (wrap64 ((mn a0 4294967295) + 1))
set_option maxHeartbeats 8000000 in
set_option maxRecDepth 100000 in
theorem zG.calls(a0 : Int)(r : Int)(w : World)(h : zG.f a0=some r) :
 Calls Tryd.prog 124 #[.int .i64 a0] w fun e w'=>e = .returned (.int .i64 r)∧Below w.heap.size w w':=by
 have HB:=qd.mk (Below.refl w.heap.size w);have H : (some (wrap64 ((mn a0 4294967295) + 1)))=some r:=h;clear h;obtain⟨ji2,Aa⟩ : ∃ j_ : Int,(mn a0 4294967295)=j_:=⟨_,rfl⟩;replace H : (some (wrap64 ((ji2) + 1)))=some r:=by first|(rw [Aa] at H;exact H)|(simp only [Aa] at H ⊢;exact H)
 (try(have hji2h : ji2≤4294967295:=by(rw [← Aa];unfold mn;(repeat' split) <;> omega)))
 (try(have hji2g : ji2≤64:=by omega))
 have hji2_ : (if 4294967295<a0 then 4294967295 else a0)=ji2:=Aa;obtain rfl:=Option.some.inj H;go_enter Tryd.func124,Tryd.ntmps124
 go_wp2
 go_ret
 exact⟨by first|rfl|(simp [qQ,qP] <;> rfl)|(simp only [← Aa];first|rfl|(simp [qQ,qP] <;> rfl))|(simp [*,qQ,qP] <;> rfl),by repeat(first|(with_reducible first|exact HB.out|apply qi|apply qe|apply qh)|exact HB.out)⟩
end Go.Proofs.YtalpmbeddldfoaaDoor.PA
