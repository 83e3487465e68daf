import Derived.Test.YtalpmbeddldfoaaDoorF0
import Derived.Test.YtalpmbeddldfoaaDoorPRunes
import Derived.Test.YtalpmbeddldfoaaDoorHandU8
import Derived.Lib.OthersKept
import Derived.Deep.LoopGhost
import Derived.Test.YtalpmbeddldfoaaDoorProg
import Derived.Deep.Draws
section
namespace Go.Proofs.YtalpmbeddldfoaaDoor.PA
open Go.RowKit Go.Proofs.YtalpmbeddldfoaaDoor.Hand Go.Proofs.YtalpmbeddldfoaaDoorW.PrintWords Go.Proofs.YtalpmbeddldfoaaDoorW.PrintLast Go.Proofs.YtalpmbeddldfoaaDoorW.PrintMore
attribute [local go_sem] vW vV zc zb vG vF vU vT
attribute [local go_sem high] za zd ze
set_option linter.unusedVariables false
set_option linter.unusedSimpArgs false
def qH.l0 : Nat→Int→ByteArray→Int→Option (Bool)
 | 0,_,_,_=>none
 | k + 1,x0,x3,x4=>if x4<(x3.size : Int) then(if 0≤x4 then(if(wrap64 (bt x3 x4))=x0 then(some true) else(qH.l0 k x0 x3 (wrap64 (x4 + 1)))) else(none)) else(if x0 ≥ 161 then(some (x0 != 65533)) else(some false))
def qH.f(k : Nat)(a0 : Int) : Option (Bool):=qH.l0 k a0 (⟨#[97,98,99,100,101,102,103,104,105,106,107,108,109,110,111,112,113,114,115,116,117,118,119,120,121,122,65,66,67,68,69,70,71,72,73,74,75,76,77,78,79,80,81,82,83,84,85,86,87,88,89,90,48,49,50,51,52,53,54,55,56,57,45,95,46,58]⟩ : ByteArray) 0
theorem qH.mono_l : ∀ k,(∀ y0 y1 y2,qR (qH.l0 k y0 y1 y2) (qH.l0 (k + 1) y0 y1 y2))
 | 0=>fun _ _ _ r h=>by simp [qH.l0] at h
 | k + 1=>by
  have ih0:=qH.mono_l k
  ·intro y0 y1 y2
   unfold qH.l0
   repeat' first
   | (with_reducible exact ih0 _ _ _)
   | (with_reducible exact qR.refl _)
   | (with_reducible exact qR.none _)
   | (with_reducible refine qR.ite ?_ ?_)
   | (with_reducible refine qR.bind ?_ (fun _=>?_))
   | exact ih0 _ _ _
   | exact qR.none _
   | refine qR.ite ?_ ?_
   | refine qR.bind ?_ (fun _=>?_)
theorem qH.mono : ∀ a0 k,qR (qH.f k a0) (qH.f (k + 1) a0):=by
 intro a0 k;have ih0:=qH.mono_l k;unfold qH.f
 repeat' first
  | (with_reducible exact ih0 _ _ _)
  | (with_reducible exact qR.refl _)
  | (with_reducible exact qR.none _)
  | (with_reducible refine qR.ite ?_ ?_)
  | (with_reducible refine qR.bind ?_ (fun _=>?_))
  | exact ih0 _ _ _
  | exact qR.none _
  | refine qR.ite ?_ ?_
  | refine qR.bind ?_ (fun _=>?_)
set_option maxHeartbeats 8000000 in
set_option maxRecDepth 100000 in
theorem qH.calls(k : Nat)(a0 : Int)(r : Bool)(w : World)(h : qH.f k a0=some r) :
 Calls Tryd.prog 26 #[.int .i64 a0] w fun e w'=>e = .returned (.bool r)∧qz w w':=by
 have H : (qH.l0 k a0 (⟨#[97,98,99,100,101,102,103,104,105,106,107,108,109,110,111,112,113,114,115,116,117,118,119,120,121,122,65,66,67,68,69,70,71,72,73,74,75,76,77,78,79,80,81,82,83,84,85,86,87,88,89,90,48,49,50,51,52,53,54,55,56,57,45,95,46,58]⟩ : ByteArray) 0)=some r:=h;clear h;have H':=qb.mk H;clear H;go_enter Tryd.func26,Tryd.ntmps26
 go_wp2
 go_loopg [4] k (fun kq v4 w'=>∃ (Aa : Int),v4 = .int .i64 Aa∧qb (qH.l0 kq a0 (⟨#[97,98,99,100,101,102,103,104,105,106,107,108,109,110,111,112,113,114,115,116,117,118,119,120,121,122,65,66,67,68,69,70,71,72,73,74,75,76,77,78,79,80,81,82,83,84,85,86,87,88,89,90,48,49,50,51,52,53,54,55,56,57,45,95,46,58]⟩ : ByteArray) Aa=some r)∧qb (kq≤k)∧qz w w')
 case atStart=>exact⟨(0),(by first|rfl|(simp;done)|(simp [*];done)),H',⟨Nat.le_refl _⟩,by repeat(first|exact qz.refl _|apply qz.step)⟩
 case round=>
  clear H';obtain⟨Aa,rfl,HA,HK1,⟨m1,rfl⟩⟩:=hrel
  cases gk with
  | zero=>exact absurd HA.out (by simp [qH.l0])
  | succ k1=>
   have H:=HA.out;clear HA;simp only [qH.l0] at H;by_cases c2 : Aa<((⟨#[97,98,99,100,101,102,103,104,105,106,107,108,109,110,111,112,113,114,115,116,117,118,119,120,121,122,65,66,67,68,69,70,71,72,73,74,75,76,77,78,79,80,81,82,83,84,85,86,87,88,89,90,48,49,50,51,52,53,54,55,56,57,45,95,46,58]⟩ : ByteArray).size : Int)
   ·rw [if_pos c2] at H
    have Ab : decide (Aa<((⟨#[97,98,99,100,101,102,103,104,105,106,107,108,109,110,111,112,113,114,115,116,117,118,119,120,121,122,65,66,67,68,69,70,71,72,73,74,75,76,77,78,79,80,81,82,83,84,85,86,87,88,89,90,48,49,50,51,52,53,54,55,56,57,45,95,46,58]⟩ : ByteArray).size : Int))=true:=decide_eq_true c2;have c2b9 : decide (Aa<(66 : Int))=true:=Ab;clear c2;by_cases c3 : 0≤Aa
    ·rw [if_pos c3] at H
     have c3b0 : decide (0≤Aa)=true:=decide_eq_true c3;clear c3;by_cases c5 : (wrap64 (bt (⟨#[97,98,99,100,101,102,103,104,105,106,107,108,109,110,111,112,113,114,115,116,117,118,119,120,121,122,65,66,67,68,69,70,71,72,73,74,75,76,77,78,79,80,81,82,83,84,85,86,87,88,89,90,48,49,50,51,52,53,54,55,56,57,45,95,46,58]⟩ : ByteArray) Aa))=a0
     ·rw [if_pos c5] at H
      have c5b0 : ((wrap64 (bt (⟨#[97,98,99,100,101,102,103,104,105,106,107,108,109,110,111,112,113,114,115,116,117,118,119,120,121,122,65,66,67,68,69,70,71,72,73,74,75,76,77,78,79,80,81,82,83,84,85,86,87,88,89,90,48,49,50,51,52,53,54,55,56,57,45,95,46,58]⟩ : ByteArray) Aa)) == a0)=true:=beq_iff_eq.mpr c5;have c5b1 : ((wrap64 (bt (⟨#[97,98,99,100,101,102,103,104,105,106,107,108,109,110,111,112,113,114,115,116,117,118,119,120,121,122,65,66,67,68,69,70,71,72,73,74,75,76,77,78,79,80,81,82,83,84,85,86,87,88,89,90,48,49,50,51,52,53,54,55,56,57,45,95,46,58]⟩ : ByteArray) Aa)) != a0)=false:=bne_eq_false_iff_eq.mpr c5;clear c5;obtain rfl:=Option.some.inj H;have p4 : 0≤(Aa : Int):=of_decide_eq_true (by first|(with_reducible assumption)|assumption);have q4 : Aa<(66 : Int):=of_decide_eq_true (by first|(with_reducible assumption)|assumption);have hx4:=Qj (⟨#[97,98,99,100,101,102,103,104,105,106,107,108,109,110,111,112,113,114,115,116,117,118,119,120,121,122,65,66,67,68,69,70,71,72,73,74,75,76,77,78,79,80,81,82,83,84,85,86,87,88,89,90,48,49,50,51,52,53,54,55,56,57,45,95,46,58]⟩ : ByteArray) Aa;replace p4:=eq_true p4;replace q4:=eq_true q4;go_wp2
      go_ret
      exact⟨by first|rfl|(simp;done)|(simp [*];done),by repeat(first|exact qz.refl _|apply qz.step)⟩
     ·rw [if_neg c5] at H
      have c5b0 : ((wrap64 (bt (⟨#[97,98,99,100,101,102,103,104,105,106,107,108,109,110,111,112,113,114,115,116,117,118,119,120,121,122,65,66,67,68,69,70,71,72,73,74,75,76,77,78,79,80,81,82,83,84,85,86,87,88,89,90,48,49,50,51,52,53,54,55,56,57,45,95,46,58]⟩ : ByteArray) Aa)) == a0)=false:=beq_eq_false_iff_ne.mpr c5;have c5b1 : ((wrap64 (bt (⟨#[97,98,99,100,101,102,103,104,105,106,107,108,109,110,111,112,113,114,115,116,117,118,119,120,121,122,65,66,67,68,69,70,71,72,73,74,75,76,77,78,79,80,81,82,83,84,85,86,87,88,89,90,48,49,50,51,52,53,54,55,56,57,45,95,46,58]⟩ : ByteArray) Aa)) != a0)=true:=bne_iff_ne.mpr c5;have H':=qb.mk H;clear H;have p4 : 0≤(Aa : Int):=of_decide_eq_true (by first|(with_reducible assumption)|assumption);have q4 : Aa<(66 : Int):=of_decide_eq_true (by first|(with_reducible assumption)|assumption);have hx4:=Qj (⟨#[97,98,99,100,101,102,103,104,105,106,107,108,109,110,111,112,113,114,115,116,117,118,119,120,121,122,65,66,67,68,69,70,71,72,73,74,75,76,77,78,79,80,81,82,83,84,85,86,87,88,89,90,48,49,50,51,52,53,54,55,56,57,45,95,46,58]⟩ : ByteArray) Aa;replace p4:=eq_true p4;replace q4:=eq_true q4;go_wp2
      go_roundg k1
      case measure=>have:=HK1.out;omega
      case rel=>exact⟨(wrap64 (Aa + 1)),(by first|rfl|(simp;done)|(simp [*];done)),H',⟨by have:=HK1.out;omega⟩,by repeat(first|exact qz.refl _|apply qz.step)⟩
    ·rw [if_neg c3] at H
     exact absurd H (by simp)
   ·rw [if_neg c2] at H
    have Ab : decide (Aa<((⟨#[97,98,99,100,101,102,103,104,105,106,107,108,109,110,111,112,113,114,115,116,117,118,119,120,121,122,65,66,67,68,69,70,71,72,73,74,75,76,77,78,79,80,81,82,83,84,85,86,87,88,89,90,48,49,50,51,52,53,54,55,56,57,45,95,46,58]⟩ : ByteArray).size : Int))=false:=decide_eq_false c2;have c2b9 : decide (Aa<(66 : Int))=false:=Ab;clear c2;by_cases c6 : a0 ≥ 161
    ·rw [if_pos c6] at H
     have c6b0 : decide (161≤a0)=true:=decide_eq_true c6;clear c6;obtain rfl:=Option.some.inj H;go_wp2
     go_ret
     exact⟨by first|rfl|(simp;done)|(simp [*];done),by repeat(first|exact qz.refl _|apply qz.step)⟩
    ·rw [if_neg c6] at H
     have c6b0 : decide (161≤a0)=false:=decide_eq_false c6;clear c6;obtain rfl:=Option.some.inj H;go_wp2
     go_ret
     exact⟨by first|rfl|(simp;done)|(simp [*];done),by repeat(first|exact qz.refl _|apply qz.step)⟩
end Go.Proofs.YtalpmbeddldfoaaDoor.PA
end
section
section
/- runes.Bad walked: the first byte that is no rune's. -/
set_option linter.unusedVariables false
namespace Go.Proofs.YtalpmbeddldfoaaDoor.PA
open Go.RowKit Go.IntWalk Go.Proofs.YtalpmbeddldfoaaDoorW.PrintWords Go.Proofs.YtalpmbeddldfoaaDoor.Hand
theorem go_at (s : ByteArray) (pos : Nat) (h : pos < s.size) : Lib.decodeGo (s.extract pos s.size) = Utf8.decode s pos := by
 unfold Lib.decodeGo
 rw [if_neg (by rw [Lib.tail_size]; omega), Lib.tail_decode, Nat.add_zero]
set_option maxHeartbeats 2000000 in
set_option maxRecDepth 100000 in
theorem bad_walk (s : ByteArray) (hs : s.size ≤ 1073741824) (w : World) (hT : Lib.Utf8Tabs 0 1 w) :
 Calls Tryd.prog 18 #[.string s] w fun e w' => e = .returned (.int .i64 (zw s s.size 0)) ∧ Below w.heap.size w w' := by
 have HT := qb.mk hT
 clear hT
 go_enter Tryd.func18, Tryd.ntmps18
 go_wp2
 go_loopg [] s.size (fun g wx => ∃ pos : Nat, wx.heap[w.heap.size]? = some (.stringIter s pos) ∧ Below w.heap.size w wx ∧ zw s g pos = zw s s.size 0 ∧ s.size ≤ pos + g)
 case atStart => exact ⟨0, World.iter_heap w s 0, (Below.refl _ w).alloc (Nat.le_refl _) _, rfl, by omega⟩
 case round =>
  obtain ⟨pos, hit, hbw, hleft, hfu⟩ := hrel
  by_cases hp : pos < s.size
  ·obtain ⟨g, rfl⟩ : ∃ g, gk = g + 1 := ⟨gk - 1, by omega⟩
   have hnx : ∀ ty, (Instr.next (.pointer (some ⟨w.heap.size, 0, none⟩)) true ty).run Tryd.prog wr = _ := fun ty => Lib.run_next_any_at wr w.heap.size s pos ty hit hp
   have hwd := Lib.width_pos s pos
   have hgo := go_at s pos hp
   obtain ⟨R, hR⟩ : ∃ R, (Utf8.decode s pos).1 = R := ⟨_, rfl⟩
   obtain ⟨K, hK⟩ : ∃ K, (Utf8.decode s pos).2 = K := ⟨_, rfl⟩
   simp only [zw, hp, if_true, hR, hK] at hleft
   rw [hR, hK] at hnx
   rw [hK] at hwd
   have hit2 := Lib.iterAt_heap wr w.heap.size s pos (pos + K) hit
   have hbw2 := Lib.below_iterAt hbw (k := w.heap.size) (Nat.le_refl _) s (pos + K)
   obtain ⟨W, hWd⟩ : ∃ W, wr.iterAt w.heap.size s (pos + K) = W := ⟨_, rfl⟩
   rw [hWd] at hnx hit2 hbw2
   have hWs : w.heap.size < W.heap.size := (Array.getElem?_eq_some_iff.1 hit2).1
   have cD := Tryd.utf8_DecodeRuneInString (s.extract pos s.size) W (Utf8Tabs_below HT.out hbw2)
   rw [hgo, hR, hK] at cD
   have HI := qb.mk hit2
   have HB := qb.mk hbw2
   clear hit hit2 hbw hbw2 hWd hgo hR hK
   by_cases h1 : R = 65533
   ·subst h1
    have hp1 : (pos : Int) ≤ (s.size : Int) := by omega
    by_cases h2 : K = 1
    ·subst h2
     rw [if_pos ⟨rfl, rfl⟩] at hleft
     have HL := qb.mk hleft
     clear hleft
     go_wp2_with (go_at_call 67; refine cD.mono ?_; rintro e W' ⟨rfl, hb⟩)
     go_ret
     exact ⟨by rw [← HL.out] <;> rfl, HB.out.trans (hb.mono (by omega))⟩
    ·rw [if_neg (fun h => h2 h.1)] at hleft
     have HL := qb.mk hleft
     clear hleft
     have h3 : ((K : Int) == 1) = false := by simp; omega
     go_wp2_with (go_at_call 67; refine cD.mono ?_; rintro e W' ⟨rfl, hb⟩)
     go_roundg g
     case measure => omega
     case rel => exact ⟨pos + K, (hb.block w.heap.size hWs).trans HI.out, HB.out.trans (hb.mono (by omega)), HL.out, by omega⟩
   ·rw [if_neg (fun h => h1 h.2)] at hleft
    have HL := qb.mk hleft
    clear hleft
    have h3 : ((R : Int) != 65533) = true := by simp; omega
    have h4 : ((R : Int) == 65533) = false := by simp; omega
    go_wp2
    go_roundg g
    case measure => omega
    case rel => exact ⟨pos + K, HI.out, HB.out, HL.out, by omega⟩
  ·have hnx : ∀ ty, (Instr.next (.pointer (some ⟨w.heap.size, 0, none⟩)) true ty).run Tryd.prog wr = _ := fun ty => Lib.run_next_end_at wr w.heap.size s pos ty hit hp
   rw [Qi s gk pos hp] at hleft
   have HL := qb.mk hleft
   clear hleft
   go_wp2
   go_ret
   exact ⟨by rw [← HL.out] <;> rfl, hbw⟩
end Go.Proofs.YtalpmbeddldfoaaDoor.PA
end
section
section
namespace Go.Proofs.YtalpmbeddldfoaaDoor.PA
open Go.RowKit Go.Proofs.YtalpmbeddldfoaaDoor.Hand Go.Proofs.YtalpmbeddldfoaaDoorW.PrintWords Go.Proofs.YtalpmbeddldfoaaDoorW.PrintLast Go.Proofs.YtalpmbeddldfoaaDoorW.PrintMore
attribute [local go_sem] vW vV zc zb vG vF vU vT
attribute [local go_sem high] za zd ze
set_option linter.unusedVariables false
set_option linter.unusedSimpArgs false
theorem eqA72(d : Nat)(w : World)(x0 y0 : Int)(x1 y1 : Int)(x2 y2 : Int)(x3 y3 : Bool)(x4 y4 : ByteArray)(x5 y5 : Int) :
 (Op.equalIn (d + 2) 72 (.agg #[.int .i64 x0,.int .i64 x1,.int .i64 x2,.bool x3,.string x4,.int .i64 x5]) (.agg #[.int .i64 y0,.int .i64 y1,.int .i64 y2,.bool y3,.string y4,.int .i64 y5])).run Tryd.prog w = .ok (x0 == y0 && (x1 == y1 && (x2 == y2 && (x3 == y3 && (x4.toList == y4.toList && (x5 == y5)))))) w:=by
 refine eqA_of Tryd.underlying72 (by kernel_rfl) ?_;refine jj (by rfl) (by go_simp;rfl) (by go_simp;rfl) (by go_simp) ?_;refine jj (by rfl) (by go_simp;rfl) (by go_simp;rfl) (by go_simp) ?_;refine jj (by rfl) (by go_simp;rfl) (by go_simp;rfl) (by go_simp) ?_;refine jj (by rfl) (by go_simp;rfl) (by go_simp;rfl) (by go_simp) ?_;refine jj (by rfl) (by go_simp;rfl) (by go_simp;rfl) (by go_simp) ?_;exact Zg (by rfl) (by go_simp;rfl) (by go_simp;rfl) (by go_simp)
theorem eqA74(d : Nat)(w : World)(x0 y0 : Int)(x1 y1 : Int)(x2 y2 : Int)(x3 y3 : Int)(x4 y4 : Int)(x5 y5 : Bool)(x6 y6 : ByteArray)(x7 y7 : Int) :
 (Op.equalIn (d + 3) 74 (.agg #[.int .i64 x0,.int .i64 x1,.int .i64 x2,.int .i64 x3,.int .i64 x4,.bool x5,.string x6,.int .i64 x7]) (.agg #[.int .i64 y0,.int .i64 y1,.int .i64 y2,.int .i64 y3,.int .i64 y4,.bool y5,.string y6,.int .i64 y7])).run Tryd.prog w = .ok (x0 == y0 && (x1 == y1 && ((x2 == y2 && (x3 == y3 && (x4 == y4 && (x5 == y5 && (x6.toList == y6.toList && (x7 == y7))))))))) w:=by
 refine eqA_of Tryd.underlying74 (by kernel_rfl) ?_;refine jj (by rfl) (by go_simp;rfl) (by go_simp;rfl) (by go_simp) ?_;refine jj (by rfl) (by go_simp;rfl) (by go_simp;rfl) (by go_simp) ?_;exact Zg (by rfl) (by go_simp) (by go_simp) (eqA72 (d + 0) w _ _ _ _ _ _ _ _ _ _ _ _)
end Go.Proofs.YtalpmbeddldfoaaDoor.PA
end
section
section
namespace Go.Proofs.YtalpmbeddldfoaaDoor.PA
open Go.RowKit Go.Proofs.YtalpmbeddldfoaaDoor.Hand Go.Proofs.YtalpmbeddldfoaaDoorW.PrintWords Go.Proofs.YtalpmbeddldfoaaDoorW.PrintLast Go.Proofs.YtalpmbeddldfoaaDoorW.PrintMore
attribute [local go_sem] vW vV zc zb vG vF vU vT
attribute [local go_sem high] za zd ze
set_option linter.unusedVariables false
set_option linter.unusedSimpArgs false
theorem eqA50(d : Nat)(w : World)(x0 y0 : ByteArray)(x1 y1 : ByteArray)(x2 y2 : Int) :
 (Op.equalIn (d + 2) 50 (.agg #[.string x0,.string x1,.int .i64 x2]) (.agg #[.string y0,.string y1,.int .i64 y2])).run Tryd.prog w = .ok (x0.toList == y0.toList && (x1.toList == y1.toList && (x2 == y2))) w:=by
 refine eqA_of Tryd.underlying50 (by kernel_rfl) ?_;refine jj (by rfl) (by go_simp;rfl) (by go_simp;rfl) (by go_simp) ?_;refine jj (by rfl) (by go_simp;rfl) (by go_simp;rfl) (by go_simp) ?_;exact Zg (by rfl) (by go_simp;rfl) (by go_simp;rfl) (by go_simp)
end Go.Proofs.YtalpmbeddldfoaaDoor.PA
end
section
section
/- The library's tables of UTF-8, as its initialisers lay them: a word for the contracts. -/
namespace Go.Proofs.YtalpmbeddldfoaaDoor.PA
open Go.RowKit
def Qp (w : World) : Prop := Lib.Utf8Tabs 0 1 w
theorem Qp.go {w W : World} (h : Qp w) (hb : Below w.heap.size w W) : Qp W := Utf8Tabs_below h hb
end Go.Proofs.YtalpmbeddldfoaaDoor.PA
end
section
/- A cell's fact behind draws and stores. -/
namespace Go.Proofs.YtalpmbeddldfoaaDoor.Hand
theorem zJ (w : World) (n : Nat) (p : Addr) (v : Value) : (w.drewN n).setCell p v = (w.setCell p v).drewN n := by
 unfold World.drewN World.setCell
 rfl
theorem zY {A B : World} {n : Nat} {a : Addr} {v : Value} (e : A = B.drewN n) (h : B.cell? a = some v) : A.cell? a = some v := by subst e; exact h
theorem nil_beq (l : List UInt8) : (l == []) = l.isEmpty := by cases l <;> rfl
theorem limbs_nand {a b c : Bool} (h : a = true) (k : (!a || (!b || !c)) = true) : (b && c) = false := by subst h; cases b <;> cases c <;> simp_all
theorem limbs_and {a b c : Bool} (h : a = true) (k : (!a || (!b || !c)) = false) : (b && c) = true := by subst h; cases b <;> cases c <;> simp_all
theorem limbs_or {a b c v : Bool} (h : a = true) (k : (!a || (!b || !c)) = v) : (!b || !c) = v := by subst h; simpa using k
end Go.Proofs.YtalpmbeddldfoaaDoor.Hand
end
end
end
end
end
