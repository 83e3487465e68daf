/- slices.ContainsFunc and IndexFunc at pairs and sessions, over a function value that answers p. -/
import Derived.Test.YtalpmbeddldfoaaDoorF0
import Derived.IntWalk
namespace Go.Proofs.YtalpmbeddldfoaaDoor.PA
open Go.RowKit Go.Proofs.YtalpmbeddldfoaaDoorW.PrintWords Go.Proofs.YtalpmbeddldfoaaDoorW.PrintLast Go.Proofs.YtalpmbeddldfoaaDoorW.PrintMore
set_option linter.unusedVariables false
set_option linter.unusedSimpArgs false
def IdxPostPair (p : vP → Bool) (l : List vP) (w : World) (e : Ending) (w' : World) : Prop := (∃ r : Int, e = .returned (.int .i64 r) ∧ decide (0 ≤ r) = l.any p) ∧ Below w.heap.size w w'
theorem any_takePair (p : vP → Bool) (l : List vP) (i : Int) (h0 : 0 ≤ i) (h1 : i < l.length) : (l.take (i + 1).toNat).any p = ((l.take i.toNat).any p || p (qj l i)) := by
 have hlt : i.toNat < l.length := by omega
 have e : (i + 1).toNat = i.toNat + 1 := by omega
 rw [e, List.take_succ_eq_append_getElem hlt, List.any_append]
 have : qj l i = l[i.toNat] := by
  show l.getD i.toNat _ = _
  rw [List.getD_eq_getElem?_getD, List.getElem?_eq_getElem hlt]; rfl
 rw [this]
 simp
theorem VK (p : vP → Bool) (l : List vP) (i : Int) (h0 : 0 ≤ i) (h1 : i < l.length) (h : p (qj l i) = true) : l.any p = true := by
 have hlt : i.toNat < l.length := by omega
 have : qj l i = l[i.toNat] := by
  show l.getD i.toNat _ = _
  rw [List.getD_eq_getElem?_getD, List.getElem?_eq_getElem hlt]; rfl
 rw [List.any_eq_true]
 exact ⟨_, List.getElem_mem hlt, by rw [← this]; exact h⟩
set_option maxHeartbeats 4000000 in
theorem Zt (gf : Nat) (p : vP → Bool) (eg : ∀ args w, (callFunc gf args).run Tryd.prog w = .ok (.enter gf args) w)
 (hp : ∀ (W : World) (x : vP), Calls Tryd.prog gf #[.agg #[.string (x).f0, .string (x).f1, .int .i64 (x).f2]] W fun e w' => e = .returned (.bool (p x)) ∧ Below W.heap.size W w')
 (A0 : Option Addr) (c0 : Nat) (l0 : List (vP)) (w : World) (hr0 : Kd.C zM w A0 l0.length l0) (hc0 : l0.length ≤ c0) :
 Calls Tryd.prog 125 #[.slice A0 l0.length c0, .func (.func gf) #[] #[]] w (IdxPostPair p l0 w) := by
 have HL := qb.mk (show l0.length ≤ 9223372036854775807 from hr0.2.1)
 have HR0 := qb.mk hr0
 have HC0 := qb.mk hc0
 have HP := qb.mk hp
 clear hr0 hc0 hp
 have HB := qb.mk (Below.refl w.heap.size w)
 go_enter Tryd.func125, Tryd.ntmps125
 go_wp2
 go_loopg [8] l0.length (fun kq v w' => ∃ (i : Int), v = .int .i64 i ∧ qb (0 ≤ i ∧ i + kq = l0.length) ∧ qb ((l0.take i.toNat).any p = false) ∧ qb (Below w.heap.size w w'))
 case atStart => exact ⟨0, rfl, ⟨by omega⟩, ⟨by simp⟩, ⟨HB.out⟩⟩
 case round =>
  clear HB
  obtain ⟨i, rfl, HI, HA, HB⟩ := hrel
  have c5 := HI.out.1
  by_cases c6 : i < (l0.length : Int)
  ·have hk := HI.out.2
   have hl := HL.out
   obtain ⟨g, rfl⟩ : ∃ g, gk = g + 1 := ⟨gk - 1, by omega⟩
   have HW := qb.mk (show wrap64 (i + 1) = i + 1 from IntWalk.wrap64_in _ (by omega))
   have HK := qb.mk (show 0 ≤ wrap64 (i + 1) ∧ wrap64 (i + 1) + (g : Int) = (l0.length : Int) by rw [HW.out]; omega)
   have HT2 := qb.mk (any_takePair p l0 i c5 c6)
   have HA2 := qb.mk (VK p l0 i c5 c6)
   clear hk hl HI
   obtain ⟨ad, e, hx0, hx1, hx2⟩ := vY HR0.out i c5 c6
   cases e
   replace hx0 := (HB.out.cell (World.block_lt_of_cell? w _ hx0)).trans hx0
   replace hx1 := (HB.out.cell (World.block_lt_of_cell? w _ hx1)).trans hx1
   replace hx2 := (HB.out.cell (World.block_lt_of_cell? w _ hx2)).trans hx2
   have c6b0 : decide (i < (l0.length : Int)) = true := decide_eq_true c6
   have c5b0 : decide (0 ≤ i) = true := decide_eq_true c5
   replace c5 := eq_true c5
   replace c6 := eq_true c6
   have cP := HP.out wr (qj l0 i)
   cases hpx : p (qj l0 i) with
   | true =>
    rw [hpx] at cP
    have HF := qb.mk (HA2.out hpx)
    clear hpx HT2 HA2
    go_wp2_with fail
    refine cP.mono ?_
    clear cP
    rintro e w2 ⟨rfl, hb2⟩
    replace HB := qb.mk (qB HB.out hb2)
    clear hb2
    go_wp2
    go_ret
    exact ⟨⟨i, rfl, by rw [HF.out]; exact c5b0⟩, HB.out⟩
   | false =>
    rw [hpx] at cP
    have HF := qb.mk (show (l0.take (wrap64 (i + 1)).toNat).any p = false by rw [HW.out, HT2.out, HA.out, hpx]; rfl)
    clear hpx HT2 HA2
    go_wp2_with fail
    refine cP.mono ?_
    clear cP
    rintro e w2 ⟨rfl, hb2⟩
    replace HB := qb.mk (qB HB.out hb2)
    clear hb2
    go_wp2
    go_roundg g
    case measure => omega
    case rel => exact ⟨wrap64 (i + 1), (by first | rfl | (simp; done) | (simp [*]; done)), HK, HF, ⟨HB.out⟩⟩
  ·have c6b0 : decide (i < (l0.length : Int)) = false := decide_eq_false c6
   have HF := qb.mk (show l0.any p = false by
    have := HA.out
    rwa [List.take_of_length_le (by omega)] at this)
   replace c5 := eq_true c5
   clear c6
   go_wp2
   go_ret
   exact ⟨⟨-1, rfl, by rw [HF.out]; rfl⟩, HB.out⟩
theorem Zw (gf : Nat) (p : vP → Bool) (eg : ∀ args w, (callFunc gf args).run Tryd.prog w = .ok (.enter gf args) w)
 (hp : ∀ (W : World) (x : vP), Calls Tryd.prog gf #[.agg #[.string (x).f0, .string (x).f1, .int .i64 (x).f2]] W fun e w' => e = .returned (.bool (p x)) ∧ Below W.heap.size W w')
 (A0 : Option Addr) (c0 : Nat) (l0 : List (vP)) (w : World) (hr0 : Kd.C zM w A0 l0.length l0) (hc0 : l0.length ≤ c0) :
 Calls Tryd.prog 89 #[.slice A0 l0.length c0, .func (.func gf) #[] #[]] w fun e w' => e = .returned (.bool (l0.any p)) ∧ Below w.heap.size w w' := by
 have c := Zt gf p eg hp A0 c0 l0 w hr0 hc0
 clear hr0 hc0 hp eg
 go_enter Tryd.func89, Tryd.ntmps89
 go_wp2_with (go_at_call 125; refine c.mono ?_; rintro e w2 ⟨⟨r, rfl, hr⟩, hb2⟩; have HR := qb.mk hr; clear hr)
 go_ret
 exact ⟨by rw [← HR.out] <;> rfl, hb2⟩
def VN (p : zo → Bool) (l : List zo) (w : World) (e : Ending) (w' : World) : Prop := (∃ r : Int, e = .returned (.int .i64 r) ∧ decide (0 ≤ r) = l.any p) ∧ Below w.heap.size w w'
theorem Vx (p : zo → Bool) (l : List zo) (i : Int) (h0 : 0 ≤ i) (h1 : i < l.length) : (l.take (i + 1).toNat).any p = ((l.take i.toNat).any p || p (qf l i)) := by
 have hlt : i.toNat < l.length := by omega
 have e : (i + 1).toNat = i.toNat + 1 := by omega
 rw [e, List.take_succ_eq_append_getElem hlt, List.any_append]
 have : qf l i = l[i.toNat] := by
  show l.getD i.toNat _ = _
  rw [List.getD_eq_getElem?_getD, List.getElem?_eq_getElem hlt]; rfl
 rw [this]
 simp
theorem Qy (p : zo → Bool) (l : List zo) (i : Int) (h0 : 0 ≤ i) (h1 : i < l.length) (h : p (qf l i) = true) : l.any p = true := by
 have hlt : i.toNat < l.length := by omega
 have : qf l i = l[i.toNat] := by
  show l.getD i.toNat _ = _
  rw [List.getD_eq_getElem?_getD, List.getElem?_eq_getElem hlt]; rfl
 rw [List.any_eq_true]
 exact ⟨_, List.getElem_mem hlt, by rw [← this]; exact h⟩
set_option maxHeartbeats 4000000 in
theorem Vf (gf : Nat) (p : zo → Bool) (eg : ∀ args w, (callFunc gf args).run Tryd.prog w = .ok (.enter gf args) w)
 (hp : ∀ (W : World) (x : zo), Calls Tryd.prog gf #[.agg #[.int .i64 (x).f0, .int .i64 (x).f1, .int .i64 (x).f2.f0, .int .i64 (x).f2.f1, .int .i64 (x).f2.f2, .bool (x).f2.f3, .string (x).f2.f4, .int .i64 (x).f2.f5]] W fun e w' => e = .returned (.bool (p x)) ∧ Below W.heap.size W w')
 (A0 : Option Addr) (c0 : Nat) (l0 : List (zo)) (w : World) (hr0 : Kd.C jW w A0 l0.length l0) (hc0 : l0.length ≤ c0) :
 Calls Tryd.prog 112 #[.slice A0 l0.length c0, .func (.func gf) #[] #[]] w (VN p l0 w) := by
 have HL := qb.mk (show l0.length ≤ 9223372036854775807 from hr0.2.1)
 have HR0 := qb.mk hr0
 have HC0 := qb.mk hc0
 have HP := qb.mk hp
 clear hr0 hc0 hp
 have HB := qb.mk (Below.refl w.heap.size w)
 go_enter Tryd.func112, Tryd.ntmps112
 go_wp2
 go_loopg [8] l0.length (fun kq v w' => ∃ (i : Int), v = .int .i64 i ∧ qb (0 ≤ i ∧ i + kq = l0.length) ∧ qb ((l0.take i.toNat).any p = false) ∧ qb (Below w.heap.size w w'))
 case atStart => exact ⟨0, rfl, ⟨by omega⟩, ⟨by simp⟩, ⟨HB.out⟩⟩
 case round =>
  clear HB
  obtain ⟨i, rfl, HI, HA, HB⟩ := hrel
  have c5 := HI.out.1
  by_cases c6 : i < (l0.length : Int)
  ·have hk := HI.out.2
   have hl := HL.out
   obtain ⟨g, rfl⟩ : ∃ g, gk = g + 1 := ⟨gk - 1, by omega⟩
   have HW := qb.mk (show wrap64 (i + 1) = i + 1 from IntWalk.wrap64_in _ (by omega))
   have HK := qb.mk (show 0 ≤ wrap64 (i + 1) ∧ wrap64 (i + 1) + (g : Int) = (l0.length : Int) by rw [HW.out]; omega)
   have HT2 := qb.mk (Vx p l0 i c5 c6)
   have HA2 := qb.mk (Qy p l0 i c5 c6)
   clear hk hl HI
   obtain ⟨ad, e, hx0, hx1, hx2, hx3, hx4, hx5, hx6, hx7⟩ := zp HR0.out i c5 c6
   cases e
   replace hx0 := (HB.out.cell (World.block_lt_of_cell? w _ hx0)).trans hx0
   replace hx1 := (HB.out.cell (World.block_lt_of_cell? w _ hx1)).trans hx1
   replace hx2 := (HB.out.cell (World.block_lt_of_cell? w _ hx2)).trans hx2
   replace hx3 := (HB.out.cell (World.block_lt_of_cell? w _ hx3)).trans hx3
   replace hx4 := (HB.out.cell (World.block_lt_of_cell? w _ hx4)).trans hx4
   replace hx5 := (HB.out.cell (World.block_lt_of_cell? w _ hx5)).trans hx5
   replace hx6 := (HB.out.cell (World.block_lt_of_cell? w _ hx6)).trans hx6
   replace hx7 := (HB.out.cell (World.block_lt_of_cell? w _ hx7)).trans hx7
   have c6b0 : decide (i < (l0.length : Int)) = true := decide_eq_true c6
   have c5b0 : decide (0 ≤ i) = true := decide_eq_true c5
   replace c5 := eq_true c5
   replace c6 := eq_true c6
   have cP := HP.out wr (qf l0 i)
   cases hpx : p (qf l0 i) with
   | true =>
    rw [hpx] at cP
    have HF := qb.mk (HA2.out hpx)
    clear hpx HT2 HA2
    go_wp2_with fail
    refine cP.mono ?_
    clear cP
    rintro e w2 ⟨rfl, hb2⟩
    replace HB := qb.mk (qB HB.out hb2)
    clear hb2
    go_wp2
    go_ret
    exact ⟨⟨i, rfl, by rw [HF.out]; exact c5b0⟩, HB.out⟩
   | false =>
    rw [hpx] at cP
    have HF := qb.mk (show (l0.take (wrap64 (i + 1)).toNat).any p = false by rw [HW.out, HT2.out, HA.out, hpx]; rfl)
    clear hpx HT2 HA2
    go_wp2_with fail
    refine cP.mono ?_
    clear cP
    rintro e w2 ⟨rfl, hb2⟩
    replace HB := qb.mk (qB HB.out hb2)
    clear hb2
    go_wp2
    go_roundg g
    case measure => omega
    case rel => exact ⟨wrap64 (i + 1), (by first | rfl | (simp; done) | (simp [*]; done)), HK, HF, ⟨HB.out⟩⟩
  ·have c6b0 : decide (i < (l0.length : Int)) = false := decide_eq_false c6
   have HF := qb.mk (show l0.any p = false by
    have := HA.out
    rwa [List.take_of_length_le (by omega)] at this)
   replace c5 := eq_true c5
   clear c6
   go_wp2
   go_ret
   exact ⟨⟨-1, rfl, by rw [HF.out]; rfl⟩, HB.out⟩
theorem jQ (gf : Nat) (p : zo → Bool) (eg : ∀ args w, (callFunc gf args).run Tryd.prog w = .ok (.enter gf args) w)
 (hp : ∀ (W : World) (x : zo), Calls Tryd.prog gf #[.agg #[.int .i64 (x).f0, .int .i64 (x).f1, .int .i64 (x).f2.f0, .int .i64 (x).f2.f1, .int .i64 (x).f2.f2, .bool (x).f2.f3, .string (x).f2.f4, .int .i64 (x).f2.f5]] W fun e w' => e = .returned (.bool (p x)) ∧ Below W.heap.size W w')
 (A0 : Option Addr) (c0 : Nat) (l0 : List (zo)) (w : World) (hr0 : Kd.C jW w A0 l0.length l0) (hc0 : l0.length ≤ c0) :
 Calls Tryd.prog 74 #[.slice A0 l0.length c0, .func (.func gf) #[] #[]] w fun e w' => e = .returned (.bool (l0.any p)) ∧ Below w.heap.size w w' := by
 have c := Vf gf p eg hp A0 c0 l0 w hr0 hc0
 clear hr0 hc0 hp eg
 go_enter Tryd.func74, Tryd.ntmps74
 go_wp2_with (go_at_call 112; refine c.mono ?_; rintro e w2 ⟨⟨r, rfl, hr⟩, hb2⟩; have HR := qb.mk hr; clear hr)
 go_ret
 exact ⟨by rw [← HR.out] <;> rfl, hb2⟩
end Go.Proofs.YtalpmbeddldfoaaDoor.PA
