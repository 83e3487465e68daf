import Derived.Test.YtalpmbeddldfoaaDoorF0
namespace Go.Proofs.YtalpmbeddldfoaaDoor.PA
open Go.RowKit Go.Proofs.YtalpmbeddldfoaaDoor.Hand Go.Proofs.YtalpmbeddldfoaaDoorW.PrintWords Go.Proofs.YtalpmbeddldfoaaDoorW.PrintLast Go.Proofs.YtalpmbeddldfoaaDoorW.PrintMore
attribute [local go_sem] vW vV zc zb vG vF vU vT
attribute [local go_sem high] za zd ze
set_option linter.unusedVariables false
set_option linter.unusedSimpArgs false
mutual
def qi.j2 : Nat→ByteArray→Int→Int→Int→Int→Option (Int × Int)
 | 0,_,_,_,_,_=>none
 | k + 1,x0,x1,x7,x8,x9=>if(wrap64 (x1 + x7)) > (x0.size : Int) then(some (0,0)) else(qi.l0 k x0 x1 x7 x8 x9 1)
def qi.l0 : Nat→ByteArray→Int→Int→Int→Int→Int→Option (Int × Int)
 | 0,_,_,_,_,_,_=>none
 | k + 1,x0,x1,x7,x8,x9,Aw=>if Aw<x7 then(if 0≤(wrap64 (x1 + Aw)) then(if(wrap64 (x1 + Aw))<(x0.size : Int) then(if(wrap64 (bt x0 (wrap64 (x1 + Aw))))<128 then(some (0,0)) else(if(wrap64 (bt x0 (wrap64 (x1 + Aw)))) > 191 then(some (0,0)) else(qi.l0 k x0 x1 x7 x8 (wrap64 ((wrap64 ((wrap64 (64 * x9)) + (wrap64 (bt x0 (wrap64 (x1 + Aw)))))) - 128)) (wrap64 (Aw + 1))))) else(none)) else(none)) else(if x9<x8 then(some (0,0)) else(if x9 > 1114111 then(some (0,0)) else(if x9 ≥ 55296 then(if x9≤57343 then(some (0,0)) else(some (x7,x9))) else(some (x7,x9)))))
def qi.j0 : Nat→ByteArray→Int→Int→Bool→Option (Int × Int)
 | 0,_,_,_,_=>none
 | k + 1,x0,x1,x6,x20=>if x20=true then(qi.j2 k x0 x1 2 128 (wrap64 (x6 - 192))) else(if x6 ≥ 224 then(qi.j1 k x0 x1 x6 (decide (x6≤239))) else(qi.j1 k x0 x1 x6 false))
def qi.j1 : Nat→ByteArray→Int→Int→Bool→Option (Int × Int)
 | 0,_,_,_,_=>none
 | k + 1,x0,x1,x6,x29=>if x29=true then(qi.j2 k x0 x1 3 2048 (wrap64 (x6 - 224))) else(if x6 ≥ 240 then(if x6≤244 then(qi.j2 k x0 x1 4 65536 (wrap64 (x6 - 240))) else(some (0,0))) else(some (0,0)))
end
def qi.f(k : Nat)(a0 : ByteArray)(a1 : Int) : Option (Int × Int):=if 0≤a1 then(if a1<(a0.size : Int) then(if(wrap64 (bt a0 a1))<128 then(some (1,wrap64 (bt a0 a1))) else(if(wrap64 (bt a0 a1)) ≥ 194 then(qi.j0 k a0 a1 (wrap64 (bt a0 a1)) (decide ((wrap64 (bt a0 a1))≤223))) else(qi.j0 k a0 a1 (wrap64 (bt a0 a1)) false))) else(none)) else(none)
theorem qi.mono_l : ∀ k,(∀ y0 y1 y2 y3 y4,qR (qi.j2 k y0 y1 y2 y3 y4) (qi.j2 (k + 1) y0 y1 y2 y3 y4))∧(∀ y0 y1 y2 y3 y4 y5,qR (qi.l0 k y0 y1 y2 y3 y4 y5) (qi.l0 (k + 1) y0 y1 y2 y3 y4 y5))∧(∀ y0 y1 y2 y3,qR (qi.j0 k y0 y1 y2 y3) (qi.j0 (k + 1) y0 y1 y2 y3))∧(∀ y0 y1 y2 y3,qR (qi.j1 k y0 y1 y2 y3) (qi.j1 (k + 1) y0 y1 y2 y3))
 | 0=>⟨fun _ _ _ _ _ r h=>by simp [qi.j2] at h,fun _ _ _ _ _ _ r h=>by simp [qi.l0] at h,fun _ _ _ _ r h=>by simp [qi.j0] at h,fun _ _ _ _ r h=>by simp [qi.j1] at h⟩
 | k + 1=>by
  obtain⟨ih0,ih1,ih2,ih3⟩:=qi.mono_l k;refine⟨?_,?_,?_,?_⟩
  ·intro y0 y1 y2 y3 y4
   unfold qi.j2
   repeat' first
   | (with_reducible exact ih0 _ _ _ _ _)
   | (with_reducible exact ih1 _ _ _ _ _ _)
   | (with_reducible exact ih2 _ _ _ _)
   | (with_reducible exact ih3 _ _ _ _)
   | (with_reducible exact qR.refl _)
   | (with_reducible exact qR.none _)
   | (with_reducible refine qR.ite ?_ ?_)
   | (with_reducible refine qR.bind ?_ (fun _=>?_))
   | exact ih0 _ _ _ _ _
   | exact ih1 _ _ _ _ _ _
   | exact ih2 _ _ _ _
   | exact ih3 _ _ _ _
   | exact qR.none _
   | refine qR.ite ?_ ?_
   | refine qR.bind ?_ (fun _=>?_)
  ·intro y0 y1 y2 y3 y4 y5
   unfold qi.l0
   repeat' first
   | (with_reducible exact ih0 _ _ _ _ _)
   | (with_reducible exact ih1 _ _ _ _ _ _)
   | (with_reducible exact ih2 _ _ _ _)
   | (with_reducible exact ih3 _ _ _ _)
   | (with_reducible exact qR.refl _)
   | (with_reducible exact qR.none _)
   | (with_reducible refine qR.ite ?_ ?_)
   | (with_reducible refine qR.bind ?_ (fun _=>?_))
   | exact ih0 _ _ _ _ _
   | exact ih1 _ _ _ _ _ _
   | exact ih2 _ _ _ _
   | exact ih3 _ _ _ _
   | exact qR.none _
   | refine qR.ite ?_ ?_
   | refine qR.bind ?_ (fun _=>?_)
  ·intro y0 y1 y2 y3
   unfold qi.j0
   repeat' first
   | (with_reducible exact ih0 _ _ _ _ _)
   | (with_reducible exact ih1 _ _ _ _ _ _)
   | (with_reducible exact ih2 _ _ _ _)
   | (with_reducible exact ih3 _ _ _ _)
   | (with_reducible exact qR.refl _)
   | (with_reducible exact qR.none _)
   | (with_reducible refine qR.ite ?_ ?_)
   | (with_reducible refine qR.bind ?_ (fun _=>?_))
   | exact ih0 _ _ _ _ _
   | exact ih1 _ _ _ _ _ _
   | exact ih2 _ _ _ _
   | exact ih3 _ _ _ _
   | exact qR.none _
   | refine qR.ite ?_ ?_
   | refine qR.bind ?_ (fun _=>?_)
  ·intro y0 y1 y2 y3
   unfold qi.j1
   repeat' first
   | (with_reducible exact ih0 _ _ _ _ _)
   | (with_reducible exact ih1 _ _ _ _ _ _)
   | (with_reducible exact ih2 _ _ _ _)
   | (with_reducible exact ih3 _ _ _ _)
   | (with_reducible exact qR.refl _)
   | (with_reducible exact qR.none _)
   | (with_reducible refine qR.ite ?_ ?_)
   | (with_reducible refine qR.bind ?_ (fun _=>?_))
   | exact ih0 _ _ _ _ _
   | exact ih1 _ _ _ _ _ _
   | exact ih2 _ _ _ _
   | exact ih3 _ _ _ _
   | exact qR.none _
   | refine qR.ite ?_ ?_
   | refine qR.bind ?_ (fun _=>?_)
theorem qi.mono : ∀ a0 a1 k,qR (qi.f k a0 a1) (qi.f (k + 1) a0 a1):=by
 intro a0 a1 k;obtain⟨ih0,ih1,ih2,ih3⟩:=qi.mono_l k;unfold qi.f
 repeat' first
  | (with_reducible exact ih0 _ _ _ _ _)
  | (with_reducible exact ih1 _ _ _ _ _ _)
  | (with_reducible exact ih2 _ _ _ _)
  | (with_reducible exact ih3 _ _ _ _)
  | (with_reducible exact qR.refl _)
  | (with_reducible exact qR.none _)
  | (with_reducible refine qR.ite ?_ ?_)
  | (with_reducible refine qR.bind ?_ (fun _=>?_))
  | exact ih0 _ _ _ _ _
  | exact ih1 _ _ _ _ _ _
  | exact ih2 _ _ _ _
  | exact ih3 _ _ _ _
  | exact qR.none _
  | refine qR.ite ?_ ?_
  | refine qR.bind ?_ (fun _=>?_)
set_option maxHeartbeats 8000000 in
set_option maxRecDepth 100000 in
theorem qi.calls(k : Nat)(a0 : ByteArray)(a1 : Int)(r1 : Int)(r2 : Int)(w : World)(h : qi.f k a0 a1=some (r1,r2)) :
 Calls Tryd.prog 68 #[.string a0,.int .i64 a1] w fun e w'=>e = .returned (.tuple #[.int .i64 r1,.int .i64 r2])∧qz w w':=by
 have H : (if 0≤a1 then(if a1<(a0.size : Int) then(if(wrap64 (bt a0 a1))<128 then(some (1,wrap64 (bt a0 a1))) else(if(wrap64 (bt a0 a1)) ≥ 194 then(qi.j0 k a0 a1 (wrap64 (bt a0 a1)) (decide ((wrap64 (bt a0 a1))≤223))) else(qi.j0 k a0 a1 (wrap64 (bt a0 a1)) false))) else(none)) else(none))=some (r1,r2):=h;clear h;by_cases c3 : 0≤a1
 ·rw [if_pos c3] at H
  have Ap : decide (0≤a1)=true:=decide_eq_true c3;clear c3;by_cases c4 : a1<(a0.size : Int)
  ·rw [if_pos c4] at H
   have Aq : decide (a1<(a0.size : Int))=true:=decide_eq_true c4;clear c4;have HC6:=qb.mk H;clear H;have p5 : 0≤(a1 : Int):=of_decide_eq_true (by first|(with_reducible assumption)|assumption);have q5 : a1<(a0.size : Int):=of_decide_eq_true (by first|(with_reducible assumption)|assumption);have hx5:=Qj a0 a1;replace p5:=eq_true p5;replace q5:=eq_true q5;go_enter Tryd.func68,Tryd.ntmps68
   go_upto_block 0 with (fail)
   go_cut [7,8,9] (fun v7 v8 v9 wc=>∃ (kq : Nat) (Ae : Int) (Aj : Int) (Ar : Int),v7 = .int .i64 Ae∧v8 = .int .i64 Aj∧v9 = .int .i64 Ar∧qb (qi.j2 kq a0 a1 Ae Aj Ar=some (r1,r2))∧qb (kq≤k)∧qz w wc)
   case first=>
    have H:=HC6.out;clear HC6;by_cases c7 : (wrap64 (bt a0 a1))<128
    ·rw [if_pos c7] at H
     have Ag : decide ((wrap64 (bt a0 a1))<128)=true:=decide_eq_true c7;clear c7
     (first|rw [Ag]|(simp only [qm,qq];rw [Ag])|skip)
     simp only [Option.some.injEq,Prod.mk.injEq] at H;obtain⟨rfl,rfl⟩:=H;go_wp2
     go_ret2
     exact⟨by first|rfl|(simp;done)|(simp [*];done),by repeat(first|exact qz.refl _|apply qz.step)⟩
    ·rw [if_neg c7] at H
     have Ag : decide ((wrap64 (bt a0 a1))<128)=false:=decide_eq_false c7;clear c7
     (first|rw [Ag]|(simp only [qm,qq];rw [Ag])|skip)
     have HC8:=qb.mk H;clear H;go_upto_region 6 with (fail)
     go_cut [20] (fun v20 wc=>∃ (kq : Nat) (Ak : Bool),v20 = .bool Ak∧qb (qi.j0 kq a0 a1 (wrap64 (bt a0 a1)) Ak=some (r1,r2))∧qb (kq≤k)∧qz w wc)
     case first=>
      have H:=HC8.out;clear HC8;by_cases c9 : (wrap64 (bt a0 a1)) ≥ 194
      ·rw [if_pos c9] at H
       have Ah : decide (194≤(wrap64 (bt a0 a1)))=true:=decide_eq_true c9;clear c9
       (first|rw [Ah]|(simp only [qm,qq];rw [Ah])|skip)
       have H':=qb.mk H;clear H;go_wp2
       go_meet
       case rel=>exact⟨_,(decide ((wrap64 (bt a0 a1))≤223)),(by first|rfl|(simp;done)|(simp [*];done)),H',⟨by first|omega|exact Nat.le_refl _⟩,by repeat(first|exact qz.refl _|apply qz.step)⟩
      ·rw [if_neg c9] at H
       have Ah : decide (194≤(wrap64 (bt a0 a1)))=false:=decide_eq_false c9;clear c9
       (first|rw [Ah]|(simp only [qm,qq];rw [Ah])|skip)
       have H':=qb.mk H;clear H;go_wp2
       go_meet
       case rel=>exact⟨_,(false),(by first|rfl|(simp;done)|(simp [*];done)),H',⟨by first|omega|exact Nat.le_refl _⟩,by repeat(first|exact qz.refl _|apply qz.step)⟩
     case rest=>
      clear HC8;try clear p2
      try clear c3
      try clear Ap
      try clear c4
      try clear Aq
      try clear p5
      try clear q5
      try clear hx5
      try clear c6
      try clear p6
      try clear c7
      try clear Ag
      try clear c9
      try clear Ah
      try clear p5
      try clear q5
      obtain⟨kq,Ak,rfl,HA,HJ7,⟨mc7,rfl⟩⟩:=hcut
      cases kq with
      | zero=>exact absurd HA.out (by simp [qi.j0])
      | succ kj7=>
       have H:=HA.out;clear HA;simp only [qi.j0] at H;by_cases Ax : Ak=true
       ·subst Ax
        have H1 : (qi.j2 kj7 a0 a1 2 128 (wrap64 ((wrap64 (bt a0 a1)) - 192)))=some (r1,r2):=by rw [if_pos rfl] at H;exact H
        clear H;have H:=H1;clear H1;have H':=qb.mk H;clear H;go_wp2
        go_meet
        case rel=>exact⟨_,(2),(128),(wrap64 ((wrap64 (bt a0 a1)) - 192)),(by first|rfl|(simp;done)|(simp [*];done)),(by first|rfl|(simp;done)|(simp [*];done)),(by first|rfl|(simp;done)|(simp [*];done)),H',⟨by have:=HJ7.out;first|omega|exact Nat.le_refl _⟩,by repeat(first|exact qz.refl _|apply qz.step)⟩
       ·replace Ax:=Bool.eq_false_iff.mpr Ax
        subst Ax;have H1 : (if(wrap64 (bt a0 a1)) ≥ 224 then(qi.j1 kj7 a0 a1 (wrap64 (bt a0 a1)) (decide ((wrap64 (bt a0 a1))≤239))) else(qi.j1 kj7 a0 a1 (wrap64 (bt a0 a1)) false))=some (r1,r2):=by rw [if_neg (show ¬ (false=true) by decide)] at H;exact H
        clear H;have H:=H1;clear H1;have Ay:=qb.mk H;clear H;go_upto_region 8 with (fail)
        go_cut [29] (fun v29 wc=>∃ (kq : Nat) (Ai : Bool),v29 = .bool Ai∧qb (qi.j1 kq a0 a1 (wrap64 (bt a0 a1)) Ai=some (r1,r2))∧qb (kq≤kj7)∧qz w wc)
        case first=>
         have H:=Ay.out;clear Ay;by_cases As : (wrap64 (bt a0 a1)) ≥ 224
         ·rw [if_pos As] at H
          have Ad : decide (224≤(wrap64 (bt a0 a1)))=true:=decide_eq_true As;clear As
          (first|rw [Ad]|(simp only [qm,qq];rw [Ad])|skip)
          have H':=qb.mk H;clear H;go_wp2
          go_meet
          case rel=>exact⟨_,(decide ((wrap64 (bt a0 a1))≤239)),(by first|rfl|(simp;done)|(simp [*];done)),H',⟨by have:=HJ7.out;first|omega|exact Nat.le_refl _⟩,by repeat(first|exact qz.refl _|apply qz.step)⟩
         ·rw [if_neg As] at H
          have Ad : decide (224≤(wrap64 (bt a0 a1)))=false:=decide_eq_false As;clear As
          (first|rw [Ad]|(simp only [qm,qq];rw [Ad])|skip)
          have H':=qb.mk H;clear H;go_wp2
          go_meet
          case rel=>exact⟨_,(false),(by first|rfl|(simp;done)|(simp [*];done)),H',⟨by have:=HJ7.out;first|omega|exact Nat.le_refl _⟩,by repeat(first|exact qz.refl _|apply qz.step)⟩
        case rest=>
         clear Ay;try clear c1
         try clear p2
         try clear c3
         try clear Ap
         try clear c4
         try clear Aq
         try clear p5
         try clear q5
         try clear hx5
         try clear c6
         try clear p6
         try clear c7
         try clear Ag
         try clear c9
         try clear Ah
         try clear Ax
         try clear As
         try clear Ad
         try clear p2
         try clear p5
         try clear p6
         try clear q5
         obtain⟨kq,Ai,rfl,HA,HJ10,⟨mc10,rfl⟩⟩:=hcut
         cases kq with
         | zero=>exact absurd HA.out (by simp [qi.j1])
         | succ kj10=>
          have H:=HA.out;clear HA;simp only [qi.j1] at H;by_cases c13 : Ai=true
          ·subst c13
           have H1 : (qi.j2 kj10 a0 a1 3 2048 (wrap64 ((wrap64 (bt a0 a1)) - 224)))=some (r1,r2):=by rw [if_pos rfl] at H;exact H
           clear H;have H:=H1;clear H1;have H':=qb.mk H;clear H;go_wp2
           go_meet
           case rel=>exact⟨_,(3),(2048),(wrap64 ((wrap64 (bt a0 a1)) - 224)),(by first|rfl|(simp;done)|(simp [*];done)),(by first|rfl|(simp;done)|(simp [*];done)),(by first|rfl|(simp;done)|(simp [*];done)),H',⟨by have:=HJ7.out;have:=HJ10.out;first|omega|exact Nat.le_refl _⟩,by repeat(first|exact qz.refl _|apply qz.step)⟩
          ·replace c13:=Bool.eq_false_iff.mpr c13
           subst c13;have H1 : (if(wrap64 (bt a0 a1)) ≥ 240 then(if(wrap64 (bt a0 a1))≤244 then(qi.j2 kj10 a0 a1 4 65536 (wrap64 ((wrap64 (bt a0 a1)) - 240))) else(some (0,0))) else(some (0,0)))=some (r1,r2):=by rw [if_neg (show ¬ (false=true) by decide)] at H;exact H
           clear H;have H:=H1;clear H1;by_cases At : (wrap64 (bt a0 a1)) ≥ 240
           ·rw [if_pos At] at H
            have Am : decide (240≤(wrap64 (bt a0 a1)))=true:=decide_eq_true At;clear At;by_cases Au : (wrap64 (bt a0 a1))≤244
            ·rw [if_pos Au] at H
             have Ao : decide ((wrap64 (bt a0 a1))≤244)=true:=decide_eq_true Au;clear Au;have H':=qb.mk H;clear H;go_wp2
             go_meet
             case rel=>exact⟨_,(4),(65536),(wrap64 ((wrap64 (bt a0 a1)) - 240)),(by first|rfl|(simp;done)|(simp [*];done)),(by first|rfl|(simp;done)|(simp [*];done)),(by first|rfl|(simp;done)|(simp [*];done)),H',⟨by have:=HJ7.out;have:=HJ10.out;first|omega|exact Nat.le_refl _⟩,by repeat(first|exact qz.refl _|apply qz.step)⟩
            ·rw [if_neg Au] at H
             have Ao : decide ((wrap64 (bt a0 a1))≤244)=false:=decide_eq_false Au;clear Au;simp only [Option.some.injEq,Prod.mk.injEq] at H;obtain⟨rfl,rfl⟩:=H;go_wp2
             go_ret2
             exact⟨by first|rfl|(simp;done)|(simp [*];done),by repeat(first|exact qz.refl _|apply qz.step)⟩
           ·rw [if_neg At] at H
            have Am : decide (240≤(wrap64 (bt a0 a1)))=false:=decide_eq_false At;clear At;simp only [Option.some.injEq,Prod.mk.injEq] at H;obtain⟨rfl,rfl⟩:=H;go_wp2
            go_ret2
            exact⟨by first|rfl|(simp;done)|(simp [*];done),by repeat(first|exact qz.refl _|apply qz.step)⟩
   case rest=>
    clear HC6;try clear c1
    try clear p2
    try clear c3
    try clear Ap
    try clear c4
    try clear Aq
    try clear p5
    try clear q5
    try clear hx5
    try clear c6
    try clear p6
    try clear c7
    try clear Ag
    try clear c9
    try clear Ah
    try clear Ax
    try clear As
    try clear Ad
    try clear c13
    try clear At
    try clear Am
    try clear Au
    try clear Ao
    try clear p2
    try clear p5
    try clear p6
    try clear q5
    obtain⟨kq,Ae,Aj,Ar,rfl,rfl,rfl,HA,HJ5,⟨mc5,rfl⟩⟩:=hcut
    cases kq with
    | zero=>exact absurd HA.out (by simp [qi.j2])
    | succ kj5=>
     have H:=HA.out;clear HA;simp only [qi.j2] at H;by_cases Az : (wrap64 (a1 + Ae)) > (a0.size : Int)
     ·rw [if_pos Az] at H
      have Av : decide ((a0.size : Int)<(wrap64 (a1 + Ae)))=true:=decide_eq_true Az;clear Az;simp only [Option.some.injEq,Prod.mk.injEq] at H;obtain⟨rfl,rfl⟩:=H;go_wp2
      go_ret2
      exact⟨by first|rfl|(simp;done)|(simp [*];done),by repeat(first|exact qz.refl _|apply qz.step)⟩
     ·rw [if_neg Az] at H
      have Av : decide ((a0.size : Int)<(wrap64 (a1 + Ae)))=false:=decide_eq_false Az;clear Az;have H':=qb.mk H;clear H;go_wp2
      go_loopg [9,10] kj5 (fun kq v9 v10 w'=>∃ (Ab : Int) (Ac : Int),v9 = .int .i64 Ab∧v10 = .int .i64 Ac∧qb (qi.l0 kq a0 a1 Ae Aj Ab Ac=some (r1,r2))∧qb (kq≤kj5)∧qz w w')
      case atStart=>exact⟨(Ar),(1),(by first|rfl|(simp;done)|(simp [*];done)),(by first|rfl|(simp;done)|(simp [*];done)),H',⟨Nat.le_refl _⟩,by repeat(first|exact qz.refl _|apply qz.step)⟩
      case round=>
       clear H';try clear c1
       try clear p2
       try clear c3
       try clear Ap
       try clear c4
       try clear Aq
       try clear c5
       try clear p5
       try clear q5
       try clear hx5
       try clear c6
       try clear p6
       try clear c7
       try clear Ag
       try clear c9
       try clear Ah
       try clear Ax
       try clear As
       try clear Ad
       try clear c13
       try clear At
       try clear Am
       try clear Au
       try clear Ao
       try clear Az
       try clear Av
       try clear p2
       try clear p5
       try clear p6
       try clear q5
       obtain⟨Ab,Ac,rfl,rfl,HA,HK2,⟨m2,rfl⟩⟩:=hrel
       cases gk with
       | zero=>exact absurd HA.out (by simp [qi.l0])
       | succ k2=>
        have H:=HA.out;clear HA;simp only [qi.l0] at H;by_cases c17 : Ac<Ae
        ·rw [if_pos c17] at H
         have c17b0 : decide (Ac<Ae)=true:=decide_eq_true c17;clear c17;obtain⟨Aa,Af⟩ : ∃ j_ : Int,(wrap64 (a1 + Ac))=j_:=⟨_,rfl⟩;replace H : (if 0≤(Aa) then(if(Aa)<(a0.size : Int) then(if(wrap64 (bt a0 (Aa)))<128 then(some (0,0)) else(if(wrap64 (bt a0 (Aa))) > 191 then(some (0,0)) else(qi.l0 k2 a0 a1 Ae Aj (wrap64 ((wrap64 ((wrap64 (64 * Ab)) + (wrap64 (bt a0 (Aa))))) - 128)) (wrap64 (Ac + 1))))) else(none)) else(none))=some (r1,r2):=by first|(rw [Af] at H;exact H)|(simp only [Af] at H ⊢;exact H)
         have hji18w : (IntKind.i64.wrap (a1 + Ac))=Aa:=(qm _).trans Af;by_cases c19 : 0≤(Aa)
         ·rw [if_pos c19] at H
          have c19b0 : decide (0≤(Aa))=true:=decide_eq_true c19;clear c19;by_cases c20 : (Aa)<(a0.size : Int)
          ·rw [if_pos c20] at H
           have c20b0 : decide ((Aa)<(a0.size : Int))=true:=decide_eq_true c20;clear c20;by_cases c22 : (wrap64 (bt a0 (Aa)))<128
           ·rw [if_pos c22] at H
            have c22b0 : decide ((wrap64 (bt a0 (Aa)))<128)=true:=decide_eq_true c22;clear c22;simp only [Option.some.injEq,Prod.mk.injEq] at H;obtain⟨rfl,rfl⟩:=H;have p21 : 0≤((Aa) : Int):=of_decide_eq_true (by first|(with_reducible assumption)|assumption);have q21 : (Aa)<(a0.size : Int):=of_decide_eq_true (by first|(with_reducible assumption)|assumption);have hx21:=Qj a0 (Aa);replace p21:=eq_true p21;replace q21:=eq_true q21;go_wp2
            go_ret2
            exact⟨by first|rfl|(simp;done)|(simp only [← Af] <;> (first|rfl|simp))|(simp [*];done),by repeat(first|exact qz.refl _|apply qz.step)⟩
           ·rw [if_neg c22] at H
            have c22b0 : decide ((wrap64 (bt a0 (Aa)))<128)=false:=decide_eq_false c22;clear c22;by_cases c23 : (wrap64 (bt a0 (Aa))) > 191
            ·rw [if_pos c23] at H
             have c23b0 : decide (191<(wrap64 (bt a0 (Aa))))=true:=decide_eq_true c23;clear c23;simp only [Option.some.injEq,Prod.mk.injEq] at H;obtain⟨rfl,rfl⟩:=H;have p21 : 0≤((Aa) : Int):=of_decide_eq_true (by first|(with_reducible assumption)|assumption);have q21 : (Aa)<(a0.size : Int):=of_decide_eq_true (by first|(with_reducible assumption)|assumption);have hx21:=Qj a0 (Aa);replace p21:=eq_true p21;replace q21:=eq_true q21;go_wp2
             go_ret2
             exact⟨by first|rfl|(simp;done)|(simp only [← Af] <;> (first|rfl|simp))|(simp [*];done),by repeat(first|exact qz.refl _|apply qz.step)⟩
            ·rw [if_neg c23] at H
             have c23b0 : decide (191<(wrap64 (bt a0 (Aa))))=false:=decide_eq_false c23;clear c23;have H':=qb.mk H;clear H;have p21 : 0≤((Aa) : Int):=of_decide_eq_true (by first|(with_reducible assumption)|assumption);have q21 : (Aa)<(a0.size : Int):=of_decide_eq_true (by first|(with_reducible assumption)|assumption);have hx21:=Qj a0 (Aa);replace p21:=eq_true p21;replace q21:=eq_true q21;go_wp2
             go_roundg k2
             case measure=>have:=HJ5.out;have:=HK2.out;omega
             case rel=>exact⟨(wrap64 ((wrap64 ((wrap64 (64 * Ab)) + (wrap64 (bt a0 (Aa))))) - 128)),(wrap64 (Ac + 1)),(by first|rfl|(simp;done)|(simp only [← Af] <;> (first|rfl|simp))|(simp [*];done)),(by first|rfl|(simp;done)|(simp [*];done)),H',⟨by have:=HJ5.out;have:=HK2.out;omega⟩,by repeat(first|exact qz.refl _|apply qz.step)⟩
          ·rw [if_neg c20] at H
           exact absurd H (by simp)
         ·rw [if_neg c19] at H
          exact absurd H (by simp)
        ·rw [if_neg c17] at H
         have c17b0 : decide (Ac<Ae)=false:=decide_eq_false c17;clear c17;by_cases c24 : Ab<Aj
         ·rw [if_pos c24] at H
          have c24b0 : decide (Ab<Aj)=true:=decide_eq_true c24;clear c24;simp only [Option.some.injEq,Prod.mk.injEq] at H;obtain⟨rfl,rfl⟩:=H;go_wp2
          go_ret2
          exact⟨by first|rfl|(simp;done)|(simp [*];done),by repeat(first|exact qz.refl _|apply qz.step)⟩
         ·rw [if_neg c24] at H
          have c24b0 : decide (Ab<Aj)=false:=decide_eq_false c24;clear c24;by_cases c25 : Ab > 1114111
          ·rw [if_pos c25] at H
           have c25b0 : decide (1114111<Ab)=true:=decide_eq_true c25;clear c25;simp only [Option.some.injEq,Prod.mk.injEq] at H;obtain⟨rfl,rfl⟩:=H;go_wp2
           go_ret2
           exact⟨by first|rfl|(simp;done)|(simp [*];done),by repeat(first|exact qz.refl _|apply qz.step)⟩
          ·rw [if_neg c25] at H
           have c25b0 : decide (1114111<Ab)=false:=decide_eq_false c25;clear c25;by_cases c26 : Ab ≥ 55296
           ·rw [if_pos c26] at H
            have c26b0 : decide (55296≤Ab)=true:=decide_eq_true c26;clear c26;by_cases c27 : Ab≤57343
            ·rw [if_pos c27] at H
             have c27b0 : decide (Ab≤57343)=true:=decide_eq_true c27;clear c27;simp only [Option.some.injEq,Prod.mk.injEq] at H;obtain⟨rfl,rfl⟩:=H;go_wp2
             go_ret2
             exact⟨by first|rfl|(simp;done)|(simp [*];done),by repeat(first|exact qz.refl _|apply qz.step)⟩
            ·rw [if_neg c27] at H
             have c27b0 : decide (Ab≤57343)=false:=decide_eq_false c27;clear c27;simp only [Option.some.injEq,Prod.mk.injEq] at H;obtain⟨rfl,rfl⟩:=H;go_wp2
             go_ret2
             exact⟨by first|rfl|(simp;done)|(simp [*];done),by repeat(first|exact qz.refl _|apply qz.step)⟩
           ·rw [if_neg c26] at H
            have c26b0 : decide (55296≤Ab)=false:=decide_eq_false c26;clear c26;simp only [Option.some.injEq,Prod.mk.injEq] at H;obtain⟨rfl,rfl⟩:=H;go_wp2
            go_ret2
            exact⟨by first|rfl|(simp;done)|(simp [*];done),by repeat(first|exact qz.refl _|apply qz.step)⟩
  ·rw [if_neg c4] at H
   exact absurd H (by simp)
 ·rw [if_neg c3] at H
  exact absurd H (by simp)
end Go.Proofs.YtalpmbeddldfoaaDoor.PA
