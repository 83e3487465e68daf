import Derived.Test.YtalpmbeddldfoaaDoorF0
import Derived.Test.YtalpmbeddldfoaaDoorFChangeoverref05Size
import Derived.Test.YtalpmbeddldfoaaDoorHandD
namespace Go.Proofs.YtalpmbeddldfoaaDoor.PA
open Go.RowKit Go.Proofs.YtalpmbeddldfoaaDoor.Hand Go.Proofs.YtalpmbeddldfoaaDoorW.PrintWords Go.Proofs.YtalpmbeddldfoaaDoorW.PrintLast Go.Proofs.YtalpmbeddldfoaaDoorW.PrintMore
attribute [local go_sem] vW vV zc zb vG vF vU vT
attribute [local go_sem high] za zd ze
set_option linter.unusedVariables false
set_option linter.unusedSimpArgs false
mutual
def qy.j0 : Nat→ByteArray→Bool→Option (Bool)
 | 0,_,_=>none
 | k + 1,x0,x13=>if x13=true then(some false) else(qy.l0 k x0 0)
def qy.l0 : Nat→ByteArray→Int→Option (Bool)
 | 0,_,_=>none
 | k + 1,x0,x3=>if x3<(x0.size : Int) then((qi.f k x0 x3).bind fun bt105=>(if bt105.1=0 then(some false) else((qH.f k bt105.2).bind fun Ae=>(if Ae=true then(qy.l0 k x0 (wrap64 (x3 + bt105.1))) else(some false))))) else(some true)
end
def qy.f(k : Nat)(a0 : ByteArray) : Option (Bool):=if(a0.size : Int)<1 then(qy.j0 k a0 true) else(qy.j0 k a0 (decide ((a0.size : Int) > 24)))
theorem qy.mono_l : ∀ k,(∀ y0 y1,qR (qy.j0 k y0 y1) (qy.j0 (k + 1) y0 y1))∧(∀ y0 y1,qR (qy.l0 k y0 y1) (qy.l0 (k + 1) y0 y1))
 | 0=>⟨fun _ _ r h=>by simp [qy.j0] at h,fun _ _ r h=>by simp [qy.l0] at h⟩
 | k + 1=>by
  obtain⟨ih0,ih1⟩:=qy.mono_l k;refine⟨?_,?_⟩
  ·intro y0 y1
   unfold qy.j0
   repeat' first
   | (with_reducible exact ih0 _ _)
   | (with_reducible exact ih1 _ _)
   | (with_reducible exact qH.mono _ _)
   | (with_reducible exact qi.mono _ _ _)
   | (with_reducible exact qR.refl _)
   | (with_reducible exact qR.none _)
   | (with_reducible refine qR.ite ?_ ?_)
   | (with_reducible refine qR.bind ?_ (fun _=>?_))
   | exact ih0 _ _
   | exact ih1 _ _
   | exact qH.mono _ _
   | exact qi.mono _ _ _
   | exact qR.none _
   | refine qR.ite ?_ ?_
   | refine qR.bind ?_ (fun _=>?_)
  ·intro y0 y1
   unfold qy.l0
   repeat' first
   | (with_reducible exact ih0 _ _)
   | (with_reducible exact ih1 _ _)
   | (with_reducible exact qH.mono _ _)
   | (with_reducible exact qi.mono _ _ _)
   | (with_reducible exact qR.refl _)
   | (with_reducible exact qR.none _)
   | (with_reducible refine qR.ite ?_ ?_)
   | (with_reducible refine qR.bind ?_ (fun _=>?_))
   | exact ih0 _ _
   | exact ih1 _ _
   | exact qH.mono _ _
   | exact qi.mono _ _ _
   | exact qR.none _
   | refine qR.ite ?_ ?_
   | refine qR.bind ?_ (fun _=>?_)
theorem qy.mono : ∀ a0 k,qR (qy.f k a0) (qy.f (k + 1) a0):=by
 intro a0 k;obtain⟨ih0,ih1⟩:=qy.mono_l k;unfold qy.f
 repeat' first
  | (with_reducible exact ih0 _ _)
  | (with_reducible exact ih1 _ _)
  | (with_reducible exact qH.mono _ _)
  | (with_reducible exact qi.mono _ _ _)
  | (with_reducible exact qR.refl _)
  | (with_reducible exact qR.none _)
  | (with_reducible refine qR.ite ?_ ?_)
  | (with_reducible refine qR.bind ?_ (fun _=>?_))
  | exact ih0 _ _
  | exact ih1 _ _
  | exact qH.mono _ _
  | exact qi.mono _ _ _
  | exact qR.none _
  | refine qR.ite ?_ ?_
  | refine qR.bind ?_ (fun _=>?_)
set_option maxHeartbeats 8000000 in
set_option maxRecDepth 100000 in
theorem qy.calls(k : Nat)(a0 : ByteArray)(r : Bool)(w : World)(h : qy.f k a0=some r) :
 Calls Tryd.prog 22 #[.string a0] w fun e w'=>e = .returned (.bool r)∧qz w w':=by
 have H : (if(a0.size : Int)<1 then(qy.j0 k a0 true) else(qy.j0 k a0 (decide ((a0.size : Int) > 24))))=some r:=h;clear h;have HC2:=qb.mk H;clear H;go_enter Tryd.func22,Tryd.ntmps22
 go_upto_region 1 with (fail)
 go_cut [13] (fun v13 wc=>∃ (kq : Nat) (Ad : Bool),v13 = .bool Ad∧qb (qy.j0 kq a0 Ad=some r)∧qb (kq≤k)∧qz w wc)
 case first=>
  have H:=HC2.out;clear HC2;by_cases c3 : (a0.size : Int)<1
  ·rw [if_pos c3] at H
   have Ac : decide ((a0.size : Int)<1)=true:=decide_eq_true c3;have Ag : decide (a0.size<1)=true:=decide_eq_true (by omega);clear c3
   (first|rw [Ac]|(simp only [qm,qq];rw [Ac])|skip)
   have H':=qb.mk H;clear H;go_wp2
   go_meet
   case rel=>exact⟨_,(true),(by first|rfl|(simp;done)|(simp [*];done)),H',⟨by first|omega|exact Nat.le_refl _⟩,by repeat(first|exact qz.refl _|apply qz.step)⟩
  ·rw [if_neg c3] at H
   have Ac : decide ((a0.size : Int)<1)=false:=decide_eq_false c3;have Ag : decide (a0.size<1)=false:=decide_eq_false (by omega);clear c3
   (first|rw [Ac]|(simp only [qm,qq];rw [Ac])|skip)
   have H':=qb.mk H;clear H;go_wp2
   go_meet
   case rel=>exact⟨_,(decide ((a0.size : Int) > 24)),(by first|rfl|(simp;done)|(simp [*];done)),H',⟨by first|omega|exact Nat.le_refl _⟩,by repeat(first|exact qz.refl _|apply qz.step)⟩
 case rest=>
  clear HC2;try clear c2
  try clear p2
  try clear c3
  try clear Ac
  try clear Ag
  obtain⟨kq,Ad,rfl,HA,HJ1,⟨mc1,rfl⟩⟩:=hcut
  cases kq with
  | zero=>exact absurd HA.out (by simp [qy.j0])
  | succ kj1=>
   have H:=HA.out;clear HA;simp only [qy.j0] at H;by_cases c4 : Ad=true
   ·subst c4
    have H1 : (some false)=some r:=by rw [if_pos rfl] at H;exact H
    clear H;have H:=H1;clear H1;obtain rfl:=Option.some.inj H;go_wp2
    go_ret
    exact⟨by first|rfl|(simp;done)|(simp [*];done),by repeat(first|exact qz.refl _|apply qz.step)⟩
   ·replace c4:=Bool.eq_false_iff.mpr c4
    subst c4;have H1 : (qy.l0 kj1 a0 0)=some r:=by rw [if_neg (show ¬ (false=true) by decide)] at H;exact H
    clear H;have H:=H1;clear H1;have H':=qb.mk H;clear H;go_wp2
    go_loopg [3] kj1 (fun kq v3 w'=>∃ (Aa : Int),v3 = .int .i64 Aa∧qb (qy.l0 kq a0 Aa=some r)∧qb (kq≤kj1)∧qz w w')
    case atStart=>exact⟨(0),(by first|rfl|(simp;done)|(simp [*];done)),H',⟨Nat.le_refl _⟩,by repeat(first|exact qz.refl _|apply qz.step)⟩
    case round=>
     clear H';try clear c1
     try clear c2
     try clear p2
     try clear c3
     try clear Ac
     try clear Ag
     try clear c4
     try clear p2
     obtain⟨Aa,rfl,HA,HK2,⟨m2,rfl⟩⟩:=hrel
     cases gk with
     | zero=>exact absurd HA.out (by simp [qy.l0])
     | succ k2=>
      have H:=HA.out;clear HA;simp only [qy.l0] at H;by_cases c5 : Aa<(a0.size : Int)
      ·rw [if_pos c5] at H
       have c5b0 : decide (Aa<(a0.size : Int))=true:=decide_eq_true c5;clear c5;replace H:=Option.bind_eq_some_iff.mp H;obtain⟨⟨Ab,Af⟩,A60,H⟩:=H;replace H : (if Ab=0 then(some false) else((qH.f k2 Af).bind fun Ae=>(if Ae=true then(qy.l0 k2 a0 (wrap64 (Aa + Ab))) else(some false))))=some r:=H;have A6:=qb.mk A60;clear A60;by_cases c7 : Ab=0
       ·rw [if_pos c7] at H
        have c7b0 : (Ab == 0)=true:=beq_iff_eq.mpr c7;have c7b1 : (Ab != 0)=false:=bne_eq_false_iff_eq.mpr c7;clear c7;obtain rfl:=Option.some.inj H;go_wp2_with (first|((with_reducible refine vR (f:=68) rfl ?_);refine zx (some 21) rfl rfl Tryd.func68 (by kernel_rfl) rfl #[.string a0,.int .i64 Aa] rfl (by(try simp only [List.map_toArray,List.map_cons,List.map_nil]);first|done|rfl|(simp only [List.length_drop,List.length_take];rfl)) ?_;(with_reducible refine(qi.calls k2 a0 Aa Ab Af _ A6.out).mono ?_);rintro e w' ⟨rfl,⟨nd,rfl⟩⟩;refine⟨_,rfl,?_⟩))
        go_ret
        exact⟨by first|rfl|(simp;done)|(simp [*];done),by repeat(first|exact qz.refl _|apply qz.step)⟩
       ·rw [if_neg c7] at H
        have c7b0 : (Ab == 0)=false:=beq_eq_false_iff_ne.mpr c7;have c7b1 : (Ab != 0)=true:=bne_iff_ne.mpr c7;replace H:=Option.bind_eq_some_iff.mp H;obtain⟨Ae,A80,H⟩:=H;replace H : (if Ae=true then(qy.l0 k2 a0 (wrap64 (Aa + Ab))) else(some false))=some r:=H;have A8:=qb.mk A80;clear A80;by_cases c9 : Ae=true
        ·subst c9
         have H1 : (qy.l0 k2 a0 (wrap64 (Aa + Ab)))=some r:=by rw [if_pos rfl] at H;exact H
         clear H;have H:=H1;clear H1;have H':=qb.mk H;clear H;go_wp2_with (first|((with_reducible refine vR (f:=68) rfl ?_);refine zx (some 21) rfl rfl Tryd.func68 (by kernel_rfl) rfl #[.string a0,.int .i64 Aa] rfl (by(try simp only [List.map_toArray,List.map_cons,List.map_nil]);first|done|rfl|(simp only [List.length_drop,List.length_take];rfl)) ?_;(with_reducible refine(qi.calls k2 a0 Aa Ab Af _ A6.out).mono ?_);rintro e w' ⟨rfl,⟨nd,rfl⟩⟩;refine⟨_,rfl,?_⟩)|(go_at_call 26;(with_reducible refine(qH.calls k2 Af true _ A8.out).mono ?_);rintro e w' ⟨rfl,⟨nd,rfl⟩⟩))
         go_roundg k2
         case measure=>have:=HJ1.out;have:=HK2.out;omega
         case rel=>exact⟨(wrap64 (Aa + Ab)),(by first|rfl|(simp;done)|(simp [*];done)),H',⟨by have:=HJ1.out;have:=HK2.out;omega⟩,by repeat(first|exact qz.refl _|apply qz.step)⟩
        ·replace c9:=Bool.eq_false_iff.mpr c9
         subst c9;have H1 : (some false)=some r:=by rw [if_neg (show ¬ (false=true) by decide)] at H;exact H
         clear H;have H:=H1;clear H1;obtain rfl:=Option.some.inj H;go_wp2_with (first|((with_reducible refine vR (f:=68) rfl ?_);refine zx (some 21) rfl rfl Tryd.func68 (by kernel_rfl) rfl #[.string a0,.int .i64 Aa] rfl (by(try simp only [List.map_toArray,List.map_cons,List.map_nil]);first|done|rfl|(simp only [List.length_drop,List.length_take];rfl)) ?_;(with_reducible refine(qi.calls k2 a0 Aa Ab Af _ A6.out).mono ?_);rintro e w' ⟨rfl,⟨nd,rfl⟩⟩;refine⟨_,rfl,?_⟩)|(go_at_call 26;(with_reducible refine(qH.calls k2 Af false _ A8.out).mono ?_);rintro e w' ⟨rfl,⟨nd,rfl⟩⟩))
         go_ret
         exact⟨by first|rfl|(simp;done)|(simp [*];done),by repeat(first|exact qz.refl _|apply qz.step)⟩
      ·rw [if_neg c5] at H
       have c5b0 : decide (Aa<(a0.size : Int))=false:=decide_eq_false c5;clear c5;obtain rfl:=Option.some.inj H;go_wp2
       go_ret
       exact⟨by first|rfl|(simp;done)|(simp [*];done),by repeat(first|exact qz.refl _|apply qz.step)⟩
end Go.Proofs.YtalpmbeddldfoaaDoor.PA
