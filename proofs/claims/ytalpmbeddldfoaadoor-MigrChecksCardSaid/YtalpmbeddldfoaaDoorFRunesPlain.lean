import Derived.Test.YtalpmbeddldfoaaDoorF0
namespace Go.Proofs.YtalpmbeddldfoaaDoor.PA
open Go.RowKit Go.Proofs.YtalpmbeddldfoaaDoor.Hand Go.Proofs.YtalpmbeddldfoaaDoorW.PrintWords Go.Proofs.YtalpmbeddldfoaaDoorW.PrintLast Go.Proofs.YtalpmbeddldfoaaDoorW.PrintMore
attribute [local go_sem] vW vV zc zb vG vF vU vT
attribute [local go_sem high] za zd ze
set_option linter.unusedVariables false
set_option linter.unusedSimpArgs false
mutual
def vp.j0 : Nat→Int→Bool→Option (Bool)
 | 0,_,_=>none
 | k + 1,x0,x3=>if x3=true then(vp.j1 k x0 x3) else(if x0 ≥ 65 then(if x0≤90 then(vp.j1 k x0 (decide (x0≤90))) else(if x0 ≥ 48 then(vp.j1 k x0 (decide (x0≤57))) else(vp.j1 k x0 false))) else(if x0 ≥ 48 then(vp.j1 k x0 (decide (x0≤57))) else(vp.j1 k x0 false)))
def vp.j1 : Nat→Int→Bool→Option (Bool)
 | 0,_,_=>none
 | k + 1,x0,x3=>if x3=true then(some true) else(if x0=45 then(some true) else(if x0=95 then(some true) else(if x0=46 then(some true) else(if x0=58 then(some true) else(if x0 ≥ 161 then(some (x0 != 65533)) else(some false))))))
end
def vp.f(k : Nat)(a0 : Int) : Option (Bool):=if a0 ≥ 97 then(vp.j0 k a0 (decide (a0≤122))) else(vp.j0 k a0 false)
theorem vp.mono_l : ∀ k,(∀ y0 y1,qR (vp.j0 k y0 y1) (vp.j0 (k + 1) y0 y1))∧(∀ y0 y1,qR (vp.j1 k y0 y1) (vp.j1 (k + 1) y0 y1))
 | 0=>⟨fun _ _ r h=>by simp [vp.j0] at h,fun _ _ r h=>by simp [vp.j1] at h⟩
 | k + 1=>by
  obtain⟨ih0,ih1⟩:=vp.mono_l k;refine⟨?_,?_⟩
  ·intro y0 y1
   unfold vp.j0
   repeat' first
   | (with_reducible exact ih0 _ _)
   | (with_reducible exact ih1 _ _)
   | (with_reducible exact qR.refl _)
   | (with_reducible exact qR.none _)
   | (with_reducible refine qR.ite ?_ ?_)
   | (with_reducible refine qR.bind ?_ (fun _=>?_))
   | exact ih0 _ _
   | exact ih1 _ _
   | exact qR.none _
   | refine qR.ite ?_ ?_
   | refine qR.bind ?_ (fun _=>?_)
  ·intro y0 y1
   unfold vp.j1
   repeat' first
   | (with_reducible exact ih0 _ _)
   | (with_reducible exact ih1 _ _)
   | (with_reducible exact qR.refl _)
   | (with_reducible exact qR.none _)
   | (with_reducible refine qR.ite ?_ ?_)
   | (with_reducible refine qR.bind ?_ (fun _=>?_))
   | exact ih0 _ _
   | exact ih1 _ _
   | exact qR.none _
   | refine qR.ite ?_ ?_
   | refine qR.bind ?_ (fun _=>?_)
theorem vp.mono : ∀ a0 k,qR (vp.f k a0) (vp.f (k + 1) a0):=by
 intro a0 k;obtain⟨ih0,ih1⟩:=vp.mono_l k;unfold vp.f
 repeat' first
  | (with_reducible exact ih0 _ _)
  | (with_reducible exact ih1 _ _)
  | (with_reducible exact qR.refl _)
  | (with_reducible exact qR.none _)
  | (with_reducible refine qR.ite ?_ ?_)
  | (with_reducible refine qR.bind ?_ (fun _=>?_))
  | exact ih0 _ _
  | exact ih1 _ _
  | exact qR.none _
  | refine qR.ite ?_ ?_
  | refine qR.bind ?_ (fun _=>?_)
set_option maxHeartbeats 8000000 in
set_option maxRecDepth 100000 in
theorem vp.calls(k : Nat)(a0 : Int)(r : Bool)(w : World)(h : vp.f k a0=some r) :
 Calls Tryd.prog 25 #[.int .i32 a0] w fun e w'=>e = .returned (.bool r)∧qz w w':=by
 have H : (if a0 ≥ 97 then(vp.j0 k a0 (decide (a0≤122))) else(vp.j0 k a0 false))=some r:=h;clear h;have HC2:=qb.mk H;clear H;go_enter Tryd.func25,Tryd.ntmps25
 go_upto_region 1 with (fail)
 go_cut [3] (fun v3 wc=>∃ (kq : Nat) (Ac : Bool),v3 = .bool Ac∧qb (vp.j0 kq a0 Ac=some r)∧qb (kq≤k)∧qz w wc)
 case first=>
  have H:=HC2.out;clear HC2;by_cases c3 : a0 ≥ 97
  ·rw [if_pos c3] at H
   have Aa : decide (97≤a0)=true:=decide_eq_true c3;clear c3
   (first|rw [Aa]|(simp only [qm,qq];rw [Aa])|skip)
   have H':=qb.mk H;clear H;go_wp2
   go_meet
   case rel=>exact⟨_,(decide (a0≤122)),(by first|rfl|(simp;done)|(simp [*];done)),H',⟨by first|omega|exact Nat.le_refl _⟩,by repeat(first|exact qz.refl _|apply qz.step)⟩
  ·rw [if_neg c3] at H
   have Aa : decide (97≤a0)=false:=decide_eq_false c3;clear c3
   (first|rw [Aa]|(simp only [qm,qq];rw [Aa])|skip)
   have H':=qb.mk H;clear H;go_wp2
   go_meet
   case rel=>exact⟨_,(false),(by first|rfl|(simp;done)|(simp [*];done)),H',⟨by first|omega|exact Nat.le_refl _⟩,by repeat(first|exact qz.refl _|apply qz.step)⟩
 case rest=>
  clear HC2;try clear c2
  try clear p2
  try clear c3
  try clear Aa
  obtain⟨kq,Ac,rfl,HA,HJ1,⟨mc1,rfl⟩⟩:=hcut
  cases kq with
  | zero=>exact absurd HA.out (by simp [vp.j0])
  | succ kj1=>
   have H:=HA.out;clear HA;simp only [vp.j0] at H;have HC4:=qb.mk H;clear H;go_upto_if 3 with (fail)
   go_cut [3] (fun v3 wc=>∃ (kq : Nat) (Ad : Bool),v3 = .bool Ad∧qb (vp.j1 kq a0 Ad=some r)∧qb (kq≤kj1)∧qz w wc)
   case first=>
    have H:=HC4.out;clear HC4;by_cases c5 : Ac=true
    ·subst c5
     have H1 : (vp.j1 kj1 a0 true)=some r:=by rw [if_pos rfl] at H;exact H
     clear H;have H:=H1;clear H1;have H':=qb.mk H;clear H;go_wp2
     go_meet
     case rel=>exact⟨_,(true),(by first|rfl|(simp;done)|(simp [*];done)),H',⟨by have:=HJ1.out;first|omega|exact Nat.le_refl _⟩,by repeat(first|exact qz.refl _|apply qz.step)⟩
    ·replace c5:=Bool.eq_false_iff.mpr c5
     subst c5;have H1 : (if a0 ≥ 65 then(if a0≤90 then(vp.j1 kj1 a0 (decide (a0≤90))) else(if a0 ≥ 48 then(vp.j1 kj1 a0 (decide (a0≤57))) else(vp.j1 kj1 a0 false))) else(if a0 ≥ 48 then(vp.j1 kj1 a0 (decide (a0≤57))) else(vp.j1 kj1 a0 false)))=some r:=by rw [if_neg (show ¬ (false=true) by decide)] at H;exact H
     clear H;have H:=H1;clear H1;by_cases c6 : a0 ≥ 65
     ·rw [if_pos c6] at H
      have Ab : decide (65≤a0)=true:=decide_eq_true c6;clear c6
      (first|rw [Ab]|(simp only [qm,qq];rw [Ab])|skip)
      by_cases c7 : a0≤90
      ·rw [if_pos c7] at H
       have c7b0 : decide (a0≤90)=true:=decide_eq_true c7;clear c7;have H':=qb.mk H;clear H;go_wp2
       go_meet
       case rel=>exact⟨_,(decide (a0≤90)),(by first|rfl|(simp;done)|(simp [*];done)),H',⟨by have:=HJ1.out;first|omega|exact Nat.le_refl _⟩,by repeat(first|exact qz.refl _|apply qz.step)⟩
      ·rw [if_neg c7] at H
       have c7b0 : decide (a0≤90)=false:=decide_eq_false c7;clear c7;by_cases c8 : a0 ≥ 48
       ·rw [if_pos c8] at H
        have c8b0 : decide (48≤a0)=true:=decide_eq_true c8;clear c8;have H':=qb.mk H;clear H;go_wp2
        go_meet
        case rel=>exact⟨_,(decide (a0≤57)),(by first|rfl|(simp;done)|(simp [*];done)),H',⟨by have:=HJ1.out;first|omega|exact Nat.le_refl _⟩,by repeat(first|exact qz.refl _|apply qz.step)⟩
       ·rw [if_neg c8] at H
        have c8b0 : decide (48≤a0)=false:=decide_eq_false c8;clear c8;have H':=qb.mk H;clear H;go_wp2
        go_meet
        case rel=>exact⟨_,(false),(by first|rfl|(simp;done)|(simp [*];done)),H',⟨by have:=HJ1.out;first|omega|exact Nat.le_refl _⟩,by repeat(first|exact qz.refl _|apply qz.step)⟩
     ·rw [if_neg c6] at H
      have Ab : decide (65≤a0)=false:=decide_eq_false c6;clear c6
      (first|rw [Ab]|(simp only [qm,qq];rw [Ab])|skip)
      by_cases c9 : a0 ≥ 48
      ·rw [if_pos c9] at H
       have c9b0 : decide (48≤a0)=true:=decide_eq_true c9;clear c9;have H':=qb.mk H;clear H;go_wp2
       go_meet
       case rel=>exact⟨_,(decide (a0≤57)),(by first|rfl|(simp;done)|(simp [*];done)),H',⟨by have:=HJ1.out;first|omega|exact Nat.le_refl _⟩,by repeat(first|exact qz.refl _|apply qz.step)⟩
      ·rw [if_neg c9] at H
       have c9b0 : decide (48≤a0)=false:=decide_eq_false c9;clear c9;have H':=qb.mk H;clear H;go_wp2
       go_meet
       case rel=>exact⟨_,(false),(by first|rfl|(simp;done)|(simp [*];done)),H',⟨by have:=HJ1.out;first|omega|exact Nat.le_refl _⟩,by repeat(first|exact qz.refl _|apply qz.step)⟩
   case rest=>
    clear HC4;try clear c1
    try clear c2
    try clear p2
    try clear c3
    try clear Aa
    try clear c5
    try clear c6
    try clear Ab
    try clear c7
    try clear c7b0
    try clear c8
    try clear c8b0
    try clear c9
    try clear c9b0
    try clear p2
    obtain⟨kq,Ad,rfl,HA,HJ3,⟨mc3,rfl⟩⟩:=hcut
    cases kq with
    | zero=>exact absurd HA.out (by simp [vp.j1])
    | succ kj3=>
     have H:=HA.out;clear HA;simp only [vp.j1] at H;by_cases c10 : Ad=true
     ·subst c10
      have H1 : (some true)=some r:=by rw [if_pos rfl] at H;exact H
      clear H;have H:=H1;clear H1;obtain rfl:=Option.some.inj H;go_wp2
      go_ret
      exact⟨by first|rfl|(simp;done)|(simp [*];done),by repeat(first|exact qz.refl _|apply qz.step)⟩
     ·replace c10:=Bool.eq_false_iff.mpr c10
      subst c10;have H1 : (if a0=45 then(some true) else(if a0=95 then(some true) else(if a0=46 then(some true) else(if a0=58 then(some true) else(if a0 ≥ 161 then(some (a0 != 65533)) else(some false))))))=some r:=by rw [if_neg (show ¬ (false=true) by decide)] at H;exact H
      clear H;have H:=H1;clear H1;by_cases Ae : a0=45
      ·rw [if_pos Ae] at H
       have c11b0 : (a0 == 45)=true:=beq_iff_eq.mpr Ae;have c11b1 : (a0 != 45)=false:=bne_eq_false_iff_eq.mpr Ae;clear Ae;obtain rfl:=Option.some.inj H;go_wp2
       go_ret
       exact⟨by first|rfl|(simp;done)|(simp [*];done),by repeat(first|exact qz.refl _|apply qz.step)⟩
      ·rw [if_neg Ae] at H
       have c11b0 : (a0 == 45)=false:=beq_eq_false_iff_ne.mpr Ae;have c11b1 : (a0 != 45)=true:=bne_iff_ne.mpr Ae;by_cases Af : a0=95
       ·rw [if_pos Af] at H
        have c12b0 : (a0 == 95)=true:=beq_iff_eq.mpr Af;have c12b1 : (a0 != 95)=false:=bne_eq_false_iff_eq.mpr Af;clear Af;obtain rfl:=Option.some.inj H;go_wp2
        go_ret
        exact⟨by first|rfl|(simp;done)|(simp [*];done),by repeat(first|exact qz.refl _|apply qz.step)⟩
       ·rw [if_neg Af] at H
        have c12b0 : (a0 == 95)=false:=beq_eq_false_iff_ne.mpr Af;have c12b1 : (a0 != 95)=true:=bne_iff_ne.mpr Af;by_cases Ag : a0=46
        ·rw [if_pos Ag] at H
         have c13b0 : (a0 == 46)=true:=beq_iff_eq.mpr Ag;have c13b1 : (a0 != 46)=false:=bne_eq_false_iff_eq.mpr Ag;clear Ag;obtain rfl:=Option.some.inj H;go_wp2
         go_ret
         exact⟨by first|rfl|(simp;done)|(simp [*];done),by repeat(first|exact qz.refl _|apply qz.step)⟩
        ·rw [if_neg Ag] at H
         have c13b0 : (a0 == 46)=false:=beq_eq_false_iff_ne.mpr Ag;have c13b1 : (a0 != 46)=true:=bne_iff_ne.mpr Ag;by_cases Ah : a0=58
         ·rw [if_pos Ah] at H
          have c14b0 : (a0 == 58)=true:=beq_iff_eq.mpr Ah;have c14b1 : (a0 != 58)=false:=bne_eq_false_iff_eq.mpr Ah;clear Ah;obtain rfl:=Option.some.inj H;go_wp2
          go_ret
          exact⟨by first|rfl|(simp;done)|(simp [*];done),by repeat(first|exact qz.refl _|apply qz.step)⟩
         ·rw [if_neg Ah] at H
          have c14b0 : (a0 == 58)=false:=beq_eq_false_iff_ne.mpr Ah;have c14b1 : (a0 != 58)=true:=bne_iff_ne.mpr Ah;by_cases c15 : a0 ≥ 161
          ·rw [if_pos c15] at H
           have c15b0 : decide (161≤a0)=true:=decide_eq_true c15;clear c15;obtain rfl:=Option.some.inj H;go_wp2
           go_ret
           exact⟨by first|rfl|(simp;done)|(simp [*];done),by repeat(first|exact qz.refl _|apply qz.step)⟩
          ·rw [if_neg c15] at H
           have c15b0 : decide (161≤a0)=false:=decide_eq_false c15;clear c15;obtain rfl:=Option.some.inj H;go_wp2
           go_ret
           exact⟨by first|rfl|(simp;done)|(simp [*];done),by repeat(first|exact qz.refl _|apply qz.step)⟩
end Go.Proofs.YtalpmbeddldfoaaDoor.PA
