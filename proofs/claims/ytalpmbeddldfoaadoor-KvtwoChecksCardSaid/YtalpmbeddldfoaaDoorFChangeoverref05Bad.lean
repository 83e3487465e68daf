import Derived.Test.YtalpmbeddldfoaaDoorF0
import Derived.Test.YtalpmbeddldfoaaDoorFChangeoverref05Size
namespace Go.Proofs.YtalpmbeddldfoaaDoor.PA
open Go.RowKit Go.Proofs.YtalpmbeddldfoaaDoor.Hand Go.Proofs.YtalpmbeddldfoaaDoorW.PrintWords Go.Proofs.YtalpmbeddldfoaaDoorW.PrintLast Go.Proofs.YtalpmbeddldfoaaDoorW.PrintMore
attribute [local go_sem] vQ vS zc za vH vJ vR vT   -- for this text's walks alone
attribute [local go_sem high] vZ zd zb
set_option linter.unusedVariables false
set_option linter.unusedSimpArgs false
def qM.l0 : Nat→ByteArray→Int→Option (Int)
 | 0,_,_=>none
 | k + 1,x0,x3=>if x3<(x0.size : Int) then((qm.f k x0 x3).bind fun bt101=>(if bt101.1=0 then(some x3) else(qM.l0 k x0 (wrap64 (x3 + bt101.1))))) else(some (-1))
def qM.f(k : Nat)(a0 : ByteArray) : Option (Int):=qM.l0 k a0 0
theorem qM.mono_l : ∀ k,(∀ y0 y1,qY (qM.l0 k y0 y1) (qM.l0 (k + 1) y0 y1))
 | 0=>fun _ _ r h=>by simp [qM.l0] at h
 | k + 1=>by
  have ih0:=qM.mono_l k
  ·intro y0 y1
   unfold qM.l0
   repeat' first
   | (with_reducible exact ih0 _ _)
   | (with_reducible exact qm.mono _ _ _)
   | (with_reducible exact qY.refl _)
   | (with_reducible exact qY.none _)
   | (with_reducible refine qY.ite ?_ ?_)
   | (with_reducible refine qY.bind ?_ (fun _=>?_))
   | exact ih0 _ _
   | exact qm.mono _ _ _
   | exact qY.none _
   | refine qY.ite ?_ ?_
   | refine qY.bind ?_ (fun _=>?_)
theorem qM.mono : ∀ a0 k,qY (qM.f k a0) (qM.f (k + 1) a0):=by
 intro a0 k;have ih0:=qM.mono_l k;unfold qM.f
 repeat' first
  | (with_reducible exact ih0 _ _)
  | (with_reducible exact qm.mono _ _ _)
  | (with_reducible exact qY.refl _)
  | (with_reducible exact qY.none _)
  | (with_reducible refine qY.ite ?_ ?_)
  | (with_reducible refine qY.bind ?_ (fun _=>?_))
  | exact ih0 _ _
  | exact qm.mono _ _ _
  | exact qY.none _
  | refine qY.ite ?_ ?_
  | refine qY.bind ?_ (fun _=>?_)
set_option maxHeartbeats 8000000 in
set_option maxRecDepth 100000 in
theorem qM.calls(k : Nat)(a0 : ByteArray)(r : Int)(w : World)(h : qM.f k a0=some r) :
 Calls Tryd.prog 19 #[.string a0] w fun e w'=>e = .returned (.int .i64 r)∧qE w w':=by
 have H : (qM.l0 k a0 0)=some r:=h;clear h;have H':=qd.mk H;clear H;go_enter Tryd.func19,Tryd.ntmps19
 go_wp2
 go_loopg [3] k (fun kq v3 w'=>∃ (Aa : Int),v3 = .int .i64 Aa∧qd (qM.l0 kq a0 Aa=some r)∧qd (kq≤k)∧qE w w')
 case atStart=>exact⟨(0),(by first|rfl|(simp;done)|(simp [*];done)),H',⟨Nat.le_refl _⟩,by repeat(first|exact qE.refl _|apply qE.step)⟩
 case round=>
  clear H';try clear c1
  obtain⟨Aa,rfl,HA,HK1,⟨m1,rfl⟩⟩:=hrel
  cases gk with
  | zero=>exact absurd HA.out (by simp [qM.l0])
  | succ k1=>
   have H:=HA.out;clear HA;simp only [qM.l0] at H;by_cases c2 : Aa<(a0.size : Int)
   ·rw [if_pos c2] at H
    have c2b0 : decide (Aa<(a0.size : Int))=true:=decide_eq_true c2;clear c2;replace H:=Option.bind_eq_some_iff.mp H;obtain⟨⟨Ab,t102⟩,A30,H⟩:=H;replace H : (if Ab=0 then(some Aa) else(qM.l0 k1 a0 (wrap64 (Aa + Ab))))=some r:=H;have A3:=qd.mk A30;clear A30;by_cases c4 : Ab=0
    ·rw [if_pos c4] at H
     have c4b0 : (Ab == 0)=true:=beq_iff_eq.mpr c4;have c4b1 : (Ab != 0)=false:=bne_eq_false_iff_eq.mpr c4;clear c4;obtain rfl:=Option.some.inj H;go_wp2_with (first|((with_reducible refine qW (f:=68) rfl ?_);refine vM (some 13) rfl rfl Tryd.func68 (by kernel_rfl) rfl #[.string a0,.int .i64 Aa] rfl (by(try simp only [List.map_toArray,List.map_cons,List.map_nil]);first|done|rfl|(simp only [List.length_drop,List.length_take];rfl)) ?_;(with_reducible refine(qm.calls k1 a0 Aa Ab t102 _ A3.out).mono ?_);rintro e w' ⟨rfl,⟨nd,rfl⟩⟩;refine⟨_,rfl,?_⟩))
     go_ret
     exact⟨by first|rfl|(simp;done)|(simp [*];done),by repeat(first|exact qE.refl _|apply qE.step)⟩
    ·rw [if_neg c4] at H
     have c4b0 : (Ab == 0)=false:=beq_eq_false_iff_ne.mpr c4;have c4b1 : (Ab != 0)=true:=bne_iff_ne.mpr c4;have H':=qd.mk H;clear H;go_wp2_with (first|((with_reducible refine qW (f:=68) rfl ?_);refine vM (some 13) rfl rfl Tryd.func68 (by kernel_rfl) rfl #[.string a0,.int .i64 Aa] rfl (by(try simp only [List.map_toArray,List.map_cons,List.map_nil]);first|done|rfl|(simp only [List.length_drop,List.length_take];rfl)) ?_;(with_reducible refine(qm.calls k1 a0 Aa Ab t102 _ A3.out).mono ?_);rintro e w' ⟨rfl,⟨nd,rfl⟩⟩;refine⟨_,rfl,?_⟩))
     go_roundg k1
     case measure=>have:=HK1.out;omega
     case rel=>exact⟨(wrap64 (Aa + Ab)),(by first|rfl|(simp;done)|(simp [*];done)),H',⟨by have:=HK1.out;omega⟩,by repeat(first|exact qE.refl _|apply qE.step)⟩
   ·rw [if_neg c2] at H
    have c2b0 : decide (Aa<(a0.size : Int))=false:=decide_eq_false c2;clear c2;obtain rfl:=Option.some.inj H;go_wp2
    go_ret
    exact⟨by first|rfl|(simp;done)|(simp [*];done),by repeat(first|exact qE.refl _|apply qE.step)⟩
end Go.Proofs.YtalpmbeddldfoaaDoor.PA
