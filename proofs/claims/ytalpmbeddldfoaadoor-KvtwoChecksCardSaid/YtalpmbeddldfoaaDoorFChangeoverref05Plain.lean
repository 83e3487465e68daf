import Derived.Test.YtalpmbeddldfoaaDoorF0
namespace Go.Proofs.YtalpmbeddldfoaaDoor.PA
open Go.RowKit Go.Proofs.YtalpmbeddldfoaaDoor.Hand Go.Proofs.YtalpmbeddldfoaaDoorW.PrintWords Go.Proofs.YtalpmbeddldfoaaDoorW.PrintLast Go.Proofs.YtalpmbeddldfoaaDoorW.PrintMore
attribute [local go_sem] vQ vS zc za vH vJ vR vT   -- for this text's walks alone
attribute [local go_sem high] vZ zd zb
set_option linter.unusedVariables false
set_option linter.unusedSimpArgs false
def qF.l0 : Nat→Int→ByteArray→Int→Option (Bool)
 | 0,_,_,_=>none
 | k + 1,x0,x3,x4=>if x4<(x3.size : Int) then(if 0≤x4 then(if(wrap64 (bt x3 x4))=x0 then(some true) else(qF.l0 k x0 x3 (wrap64 (x4 + 1)))) else(none)) else(if x0 ≥ 161 then(some (x0 != 65533)) else(some false))
def qF.f(k : Nat)(a0 : Int) : Option (Bool):=qF.l0 k a0 (⟨#[97,98,99,100,101,102,103,104,105,106,107,108,109,110,111,112,113,114,115,116,117,118,119,120,121,122,65,66,67,68,69,70,71,72,73,74,75,76,77,78,79,80,81,82,83,84,85,86,87,88,89,90,48,49,50,51,52,53,54,55,56,57,45,95,46,58]⟩ : ByteArray) 0
theorem qF.mono_l : ∀ k,(∀ y0 y1 y2,qY (qF.l0 k y0 y1 y2) (qF.l0 (k + 1) y0 y1 y2))
 | 0=>fun _ _ _ r h=>by simp [qF.l0] at h
 | k + 1=>by
  have ih0:=qF.mono_l k
  ·intro y0 y1 y2
   unfold qF.l0
   repeat' first
   | (with_reducible exact ih0 _ _ _)
   | (with_reducible exact qY.refl _)
   | (with_reducible exact qY.none _)
   | (with_reducible refine qY.ite ?_ ?_)
   | (with_reducible refine qY.bind ?_ (fun _=>?_))
   | exact ih0 _ _ _
   | exact qY.none _
   | refine qY.ite ?_ ?_
   | refine qY.bind ?_ (fun _=>?_)
theorem qF.mono : ∀ a0 k,qY (qF.f k a0) (qF.f (k + 1) a0):=by
 intro a0 k;have ih0:=qF.mono_l k;unfold qF.f
 repeat' first
  | (with_reducible exact ih0 _ _ _)
  | (with_reducible exact qY.refl _)
  | (with_reducible exact qY.none _)
  | (with_reducible refine qY.ite ?_ ?_)
  | (with_reducible refine qY.bind ?_ (fun _=>?_))
  | exact ih0 _ _ _
  | exact qY.none _
  | refine qY.ite ?_ ?_
  | refine qY.bind ?_ (fun _=>?_)
set_option maxHeartbeats 8000000 in
set_option maxRecDepth 100000 in
theorem qF.calls(k : Nat)(a0 : Int)(r : Bool)(w : World)(h : qF.f k a0=some r) :
 Calls Tryd.prog 26 #[.int .i64 a0] w fun e w'=>e = .returned (.bool r)∧qE w w':=by
 have H : (qF.l0 k a0 (⟨#[97,98,99,100,101,102,103,104,105,106,107,108,109,110,111,112,113,114,115,116,117,118,119,120,121,122,65,66,67,68,69,70,71,72,73,74,75,76,77,78,79,80,81,82,83,84,85,86,87,88,89,90,48,49,50,51,52,53,54,55,56,57,45,95,46,58]⟩ : ByteArray) 0)=some r:=h;clear h;have H':=qd.mk H;clear H;go_enter Tryd.func26,Tryd.ntmps26
 go_wp2
 go_loopg [4] k (fun kq v4 w'=>∃ (Aa : Int),v4 = .int .i64 Aa∧qd (qF.l0 kq a0 (⟨#[97,98,99,100,101,102,103,104,105,106,107,108,109,110,111,112,113,114,115,116,117,118,119,120,121,122,65,66,67,68,69,70,71,72,73,74,75,76,77,78,79,80,81,82,83,84,85,86,87,88,89,90,48,49,50,51,52,53,54,55,56,57,45,95,46,58]⟩ : ByteArray) Aa=some r)∧qd (kq≤k)∧qE w w')
 case atStart=>exact⟨(0),(by first|rfl|(simp;done)|(simp [*];done)),H',⟨Nat.le_refl _⟩,by repeat(first|exact qE.refl _|apply qE.step)⟩
 case round=>
  clear H';obtain⟨Aa,rfl,HA,HK1,⟨m1,rfl⟩⟩:=hrel
  cases gk with
  | zero=>exact absurd HA.out (by simp [qF.l0])
  | succ k1=>
   have H:=HA.out;clear HA;simp only [qF.l0] at H;by_cases c2 : Aa<((⟨#[97,98,99,100,101,102,103,104,105,106,107,108,109,110,111,112,113,114,115,116,117,118,119,120,121,122,65,66,67,68,69,70,71,72,73,74,75,76,77,78,79,80,81,82,83,84,85,86,87,88,89,90,48,49,50,51,52,53,54,55,56,57,45,95,46,58]⟩ : ByteArray).size : Int)
   ·rw [if_pos c2] at H
    have Ab : decide (Aa<((⟨#[97,98,99,100,101,102,103,104,105,106,107,108,109,110,111,112,113,114,115,116,117,118,119,120,121,122,65,66,67,68,69,70,71,72,73,74,75,76,77,78,79,80,81,82,83,84,85,86,87,88,89,90,48,49,50,51,52,53,54,55,56,57,45,95,46,58]⟩ : ByteArray).size : Int))=true:=decide_eq_true c2;have c2b9 : decide (Aa<(66 : Int))=true:=Ab;clear c2;by_cases c3 : 0≤Aa
    ·rw [if_pos c3] at H
     have c3b0 : decide (0≤Aa)=true:=decide_eq_true c3;clear c3;by_cases c5 : (wrap64 (bt (⟨#[97,98,99,100,101,102,103,104,105,106,107,108,109,110,111,112,113,114,115,116,117,118,119,120,121,122,65,66,67,68,69,70,71,72,73,74,75,76,77,78,79,80,81,82,83,84,85,86,87,88,89,90,48,49,50,51,52,53,54,55,56,57,45,95,46,58]⟩ : ByteArray) Aa))=a0
     ·rw [if_pos c5] at H
      have c5b0 : ((wrap64 (bt (⟨#[97,98,99,100,101,102,103,104,105,106,107,108,109,110,111,112,113,114,115,116,117,118,119,120,121,122,65,66,67,68,69,70,71,72,73,74,75,76,77,78,79,80,81,82,83,84,85,86,87,88,89,90,48,49,50,51,52,53,54,55,56,57,45,95,46,58]⟩ : ByteArray) Aa)) == a0)=true:=beq_iff_eq.mpr c5;have c5b1 : ((wrap64 (bt (⟨#[97,98,99,100,101,102,103,104,105,106,107,108,109,110,111,112,113,114,115,116,117,118,119,120,121,122,65,66,67,68,69,70,71,72,73,74,75,76,77,78,79,80,81,82,83,84,85,86,87,88,89,90,48,49,50,51,52,53,54,55,56,57,45,95,46,58]⟩ : ByteArray) Aa)) != a0)=false:=bne_eq_false_iff_eq.mpr c5;clear c5;obtain rfl:=Option.some.inj H;have p4 : 0≤(Aa : Int):=of_decide_eq_true (by first|(with_reducible assumption)|assumption);have q4 : Aa<(66 : Int):=of_decide_eq_true (by first|(with_reducible assumption)|assumption);have hx4:=bt_at (⟨#[97,98,99,100,101,102,103,104,105,106,107,108,109,110,111,112,113,114,115,116,117,118,119,120,121,122,65,66,67,68,69,70,71,72,73,74,75,76,77,78,79,80,81,82,83,84,85,86,87,88,89,90,48,49,50,51,52,53,54,55,56,57,45,95,46,58]⟩ : ByteArray) Aa;replace p4:=eq_true p4;replace q4:=eq_true q4;go_wp2
      go_ret
      exact⟨by first|rfl|(simp;done)|(simp [*];done),by repeat(first|exact qE.refl _|apply qE.step)⟩
     ·rw [if_neg c5] at H
      have c5b0 : ((wrap64 (bt (⟨#[97,98,99,100,101,102,103,104,105,106,107,108,109,110,111,112,113,114,115,116,117,118,119,120,121,122,65,66,67,68,69,70,71,72,73,74,75,76,77,78,79,80,81,82,83,84,85,86,87,88,89,90,48,49,50,51,52,53,54,55,56,57,45,95,46,58]⟩ : ByteArray) Aa)) == a0)=false:=beq_eq_false_iff_ne.mpr c5;have c5b1 : ((wrap64 (bt (⟨#[97,98,99,100,101,102,103,104,105,106,107,108,109,110,111,112,113,114,115,116,117,118,119,120,121,122,65,66,67,68,69,70,71,72,73,74,75,76,77,78,79,80,81,82,83,84,85,86,87,88,89,90,48,49,50,51,52,53,54,55,56,57,45,95,46,58]⟩ : ByteArray) Aa)) != a0)=true:=bne_iff_ne.mpr c5;have H':=qd.mk H;clear H;have p4 : 0≤(Aa : Int):=of_decide_eq_true (by first|(with_reducible assumption)|assumption);have q4 : Aa<(66 : Int):=of_decide_eq_true (by first|(with_reducible assumption)|assumption);have hx4:=bt_at (⟨#[97,98,99,100,101,102,103,104,105,106,107,108,109,110,111,112,113,114,115,116,117,118,119,120,121,122,65,66,67,68,69,70,71,72,73,74,75,76,77,78,79,80,81,82,83,84,85,86,87,88,89,90,48,49,50,51,52,53,54,55,56,57,45,95,46,58]⟩ : ByteArray) Aa;replace p4:=eq_true p4;replace q4:=eq_true q4;go_wp2
      go_roundg k1
      case measure=>have:=HK1.out;omega
      case rel=>exact⟨(wrap64 (Aa + 1)),(by first|rfl|(simp;done)|(simp [*];done)),H',⟨by have:=HK1.out;omega⟩,by repeat(first|exact qE.refl _|apply qE.step)⟩
    ·rw [if_neg c3] at H
     exact absurd H (by simp)
   ·rw [if_neg c2] at H
    have Ab : decide (Aa<((⟨#[97,98,99,100,101,102,103,104,105,106,107,108,109,110,111,112,113,114,115,116,117,118,119,120,121,122,65,66,67,68,69,70,71,72,73,74,75,76,77,78,79,80,81,82,83,84,85,86,87,88,89,90,48,49,50,51,52,53,54,55,56,57,45,95,46,58]⟩ : ByteArray).size : Int))=false:=decide_eq_false c2;have c2b9 : decide (Aa<(66 : Int))=false:=Ab;clear c2;by_cases c6 : a0 ≥ 161
    ·rw [if_pos c6] at H
     have c6b0 : decide (161≤a0)=true:=decide_eq_true c6;clear c6;obtain rfl:=Option.some.inj H;go_wp2
     go_ret
     exact⟨by first|rfl|(simp;done)|(simp [*];done),by repeat(first|exact qE.refl _|apply qE.step)⟩
    ·rw [if_neg c6] at H
     have c6b0 : decide (161≤a0)=false:=decide_eq_false c6;clear c6;obtain rfl:=Option.some.inj H;go_wp2
     go_ret
     exact⟨by first|rfl|(simp;done)|(simp [*];done),by repeat(first|exact qE.refl _|apply qE.step)⟩
end Go.Proofs.YtalpmbeddldfoaaDoor.PA
