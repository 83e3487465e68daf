-- A text that a program wrote for this claim (print.py over stand-in bodies, tool/pr.sh).
import Derived.Test.YtalpmbeddldfoaaF0
import Derived.Test.YtalpmbeddldfoaaFEq1
import Derived.Test.YtalpmbeddldfoaaFChangeoverref22Large
import Derived.Test.YtalpmbeddldfoaaFChangeoverref22Rise
import Derived.Test.YtalpmbeddldfoaaFSessWhich
import Derived.Test.YtalpmbeddldfoaaFSessLast
import Derived.Test.YtalpmbeddldfoaaFChangeoverlaw22Awake
import Derived.Test.YtalpmbeddldfoaaFChangeoverref22Last
import Derived.Test.YtalpmbeddldfoaaFChangeoverref22Has
namespace Go.Proofs.Ytalpmbeddldfoaa.PA
open Go.RowKit Go.Proofs.Ytalpmbeddldfoaa.Hand Go.Proofs.YtalpmbeddldfoaaW.PrintWords Go.Proofs.YtalpmbeddldfoaaW.PrintLast Go.Proofs.YtalpmbeddldfoaaW.PrintMore
attribute [local go_sem] max2_int min2_int max_two min_two max_three min_three max_four min_four   -- for this text's walks alone
attribute [local go_sem high] str_leq str_gtr str_geq
set_option linter.unusedVariables false
set_option linter.unusedSimpArgs false

attribute [local go_sem high] eqA60
/-! ### changeoverlaw22_SessWhich: function 8 -/
mutual
def changeoverlaw22_SessWhich.j0 : Nat → List (S111) → Int → Int → Bool → Option (Bool)
  | 0, _, _, _, _ => none
  | k + 1, x0, x1, x2, x18 => if x18 = true then ((changeoverlaw22_awake.f k).bind fun t390 => (some t390)) else ((sess_Which.f k x0 x1 x2).bind fun bt391 => ((changeoverref22_Last.f k x0 x1).bind fun bt399 => ((changeoverref22_Has.f k x0 x1).bind fun t407 => (if t407 = true then (changeoverlaw22_SessWhich.j1 k x0 x1 x2 bt391.1 bt399.1 0 (decide (x2 ≤ bt399.1)) bt391.2.1 bt391.2.2.1 bt391.2.2.2.1 bt391.2.2.2.2.1 bt391.2.2.2.2.2.1 bt391.2.2.2.2.2.2 bt399.2.1 bt399.2.2.1 bt399.2.2.2.1 bt399.2.2.2.2.1 bt399.2.2.2.2.2.1 bt399.2.2.2.2.2.2) else (changeoverlaw22_SessWhich.j1 k x0 x1 x2 bt391.1 bt399.1 0 false bt391.2.1 bt391.2.2.1 bt391.2.2.2.1 bt391.2.2.2.2.1 bt391.2.2.2.2.2.1 bt391.2.2.2.2.2.2 bt399.2.1 bt399.2.2.1 bt399.2.2.2.1 bt399.2.2.2.2.1 bt399.2.2.2.2.2.1 bt399.2.2.2.2.2.2)))))
def changeoverlaw22_SessWhich.j1 : Nat → List (S111) → Int → Int → Int → Int → Int → Bool → Int → Int → Int → Bool → ByteArray → Int → Int → Int → Int → Bool → ByteArray → Int → Option (Bool)
  | 0, _, _, _, _, _, _, _, _, _, _, _, _, _, _, _, _, _, _, _ => none
  | k + 1, x0, x1, x2, x7, x9, x11, x40, x399000, x399001, x399002, x399003, x399004, x399005, x407000, x407001, x407002, x407003, x407004, x407005 => if x40 = true then (if x2 = x9 then (changeoverlaw22_SessWhich.j2 k x0 x1 x7 x9 1 x399000 x399001 x399002 x399003 x399004 x399005 x407000 x407001 x407002 x407003 x407004 x407005) else (changeoverlaw22_SessWhich.j2 k x0 x1 x7 x9 2 x399000 x399001 x399002 x399003 x399004 x399005 x407000 x407001 x407002 x407003 x407004 x407005)) else (changeoverlaw22_SessWhich.j2 k x0 x1 x7 x9 x11 x399000 x399001 x399002 x399003 x399004 x399005 x407000 x407001 x407002 x407003 x407004 x407005)
def changeoverlaw22_SessWhich.j2 : Nat → List (S111) → Int → Int → Int → Int → Int → Int → Int → Bool → ByteArray → Int → Int → Int → Int → Bool → ByteArray → Int → Option (Bool)
  | 0, _, _, _, _, _, _, _, _, _, _, _, _, _, _, _, _, _ => none
  | k + 1, x0, x1, x7, x9, x11, x399000, x399001, x399002, x399003, x399004, x399005, x407000, x407001, x407002, x407003, x407004, x407005 => if x11 = 1 then (if x7 = x11 then (if (x399000 == x407000 && (x399001 == x407001 && (x399002 == x407002 && (x399003 == x407003 && (x399004.toList == x407004.toList && (x399005 == x407005)))))) = true then ((sess_Last.f k x0 x1).bind fun t408 => (if t408 = x9 then ((changeoverlaw22_awake.f k).bind fun t409 => (some t409)) else (some false))) else (some false)) else (some false)) else (if x7 = x11 then (if (x399000 == 0 && (x399001 == 0 && (x399002 == 0 && (!x399003 && (x399004.toList == ([] : List UInt8) && (x399005 == 0)))))) = true then ((sess_Last.f k x0 x1).bind fun t410 => (if t410 = x9 then ((changeoverlaw22_awake.f k).bind fun t411 => (some t411)) else (some false))) else (some false)) else (some false))
end
def changeoverlaw22_SessWhich.f (k : Nat) (l0 : List (S111)) (a1 : Int) (a2 : Int) : Option (Bool) := (changeoverref22_Large.f k l0).bind fun t388 => (if t388 = true then (changeoverlaw22_SessWhich.j0 k l0 a1 a2 true) else ((changeoverref22_Rise.f k l0).bind fun t389 => (changeoverlaw22_SessWhich.j0 k l0 a1 a2 (!t389))))
theorem changeoverlaw22_SessWhich.mono_l : ∀ k, (∀ y0 y1 y2 y3, LeO (changeoverlaw22_SessWhich.j0 k y0 y1 y2 y3) (changeoverlaw22_SessWhich.j0 (k + 1) y0 y1 y2 y3)) ∧ (∀ y0 y1 y2 y3 y4 y5 y6 y7 y8 y9 y10 y11 y12 y13 y14 y15 y16 y17 y18, LeO (changeoverlaw22_SessWhich.j1 k y0 y1 y2 y3 y4 y5 y6 y7 y8 y9 y10 y11 y12 y13 y14 y15 y16 y17 y18) (changeoverlaw22_SessWhich.j1 (k + 1) y0 y1 y2 y3 y4 y5 y6 y7 y8 y9 y10 y11 y12 y13 y14 y15 y16 y17 y18)) ∧ (∀ y0 y1 y2 y3 y4 y5 y6 y7 y8 y9 y10 y11 y12 y13 y14 y15 y16, LeO (changeoverlaw22_SessWhich.j2 k y0 y1 y2 y3 y4 y5 y6 y7 y8 y9 y10 y11 y12 y13 y14 y15 y16) (changeoverlaw22_SessWhich.j2 (k + 1) y0 y1 y2 y3 y4 y5 y6 y7 y8 y9 y10 y11 y12 y13 y14 y15 y16))
  | 0 => ⟨fun _ _ _ _ r h => by simp [changeoverlaw22_SessWhich.j0] at h, fun _ _ _ _ _ _ _ _ _ _ _ _ _ _ _ _ _ _ _ r h => by simp [changeoverlaw22_SessWhich.j1] at h, fun _ _ _ _ _ _ _ _ _ _ _ _ _ _ _ _ _ r h => by simp [changeoverlaw22_SessWhich.j2] at h⟩
  | k + 1 => by
    obtain ⟨ih0, ih1, ih2⟩ := changeoverlaw22_SessWhich.mono_l k
    refine ⟨?_, ?_, ?_⟩
    · intro y0 y1 y2 y3
      unfold changeoverlaw22_SessWhich.j0
      repeat' first
      | (with_reducible exact ih0 _ _ _ _)
      | (with_reducible exact ih1 _ _ _ _ _ _ _ _ _ _ _ _ _ _ _ _ _ _ _)
      | (with_reducible exact ih2 _ _ _ _ _ _ _ _ _ _ _ _ _ _ _ _ _)
      | (with_reducible exact changeoverlaw22_awake.mono _)
      | (with_reducible exact changeoverref22_Has.mono _ _ _)
      | (with_reducible exact changeoverref22_Large.mono _ _)
      | (with_reducible exact changeoverref22_Last.mono _ _ _)
      | (with_reducible exact changeoverref22_Rise.mono _ _)
      | (with_reducible exact sess_Last.mono _ _ _)
      | (with_reducible exact sess_Which.mono _ _ _ _)
      | (with_reducible exact LeO.refl _)
      | (with_reducible exact LeO.none _)
      | (with_reducible refine LeO.ite ?_ ?_)
      | (with_reducible refine LeO.bind ?_ (fun _ => ?_))
      | exact ih0 _ _ _ _
      | exact ih1 _ _ _ _ _ _ _ _ _ _ _ _ _ _ _ _ _ _ _
      | exact ih2 _ _ _ _ _ _ _ _ _ _ _ _ _ _ _ _ _
      | exact changeoverlaw22_awake.mono _
      | exact changeoverref22_Has.mono _ _ _
      | exact changeoverref22_Large.mono _ _
      | exact changeoverref22_Last.mono _ _ _
      | exact changeoverref22_Rise.mono _ _
      | exact sess_Last.mono _ _ _
      | exact sess_Which.mono _ _ _ _
      | exact LeO.none _
      | refine LeO.ite ?_ ?_
      | refine LeO.bind ?_ (fun _ => ?_)
    · intro y0 y1 y2 y3 y4 y5 y6 y7 y8 y9 y10 y11 y12 y13 y14 y15 y16 y17 y18
      unfold changeoverlaw22_SessWhich.j1
      repeat' first
      | (with_reducible exact ih0 _ _ _ _)
      | (with_reducible exact ih1 _ _ _ _ _ _ _ _ _ _ _ _ _ _ _ _ _ _ _)
      | (with_reducible exact ih2 _ _ _ _ _ _ _ _ _ _ _ _ _ _ _ _ _)
      | (with_reducible exact changeoverlaw22_awake.mono _)
      | (with_reducible exact changeoverref22_Has.mono _ _ _)
      | (with_reducible exact changeoverref22_Large.mono _ _)
      | (with_reducible exact changeoverref22_Last.mono _ _ _)
      | (with_reducible exact changeoverref22_Rise.mono _ _)
      | (with_reducible exact sess_Last.mono _ _ _)
      | (with_reducible exact sess_Which.mono _ _ _ _)
      | (with_reducible exact LeO.refl _)
      | (with_reducible exact LeO.none _)
      | (with_reducible refine LeO.ite ?_ ?_)
      | (with_reducible refine LeO.bind ?_ (fun _ => ?_))
      | exact ih0 _ _ _ _
      | exact ih1 _ _ _ _ _ _ _ _ _ _ _ _ _ _ _ _ _ _ _
      | exact ih2 _ _ _ _ _ _ _ _ _ _ _ _ _ _ _ _ _
      | exact changeoverlaw22_awake.mono _
      | exact changeoverref22_Has.mono _ _ _
      | exact changeoverref22_Large.mono _ _
      | exact changeoverref22_Last.mono _ _ _
      | exact changeoverref22_Rise.mono _ _
      | exact sess_Last.mono _ _ _
      | exact sess_Which.mono _ _ _ _
      | exact LeO.none _
      | refine LeO.ite ?_ ?_
      | refine LeO.bind ?_ (fun _ => ?_)
    · intro y0 y1 y2 y3 y4 y5 y6 y7 y8 y9 y10 y11 y12 y13 y14 y15 y16
      unfold changeoverlaw22_SessWhich.j2
      repeat' first
      | (with_reducible exact ih0 _ _ _ _)
      | (with_reducible exact ih1 _ _ _ _ _ _ _ _ _ _ _ _ _ _ _ _ _ _ _)
      | (with_reducible exact ih2 _ _ _ _ _ _ _ _ _ _ _ _ _ _ _ _ _)
      | (with_reducible exact changeoverlaw22_awake.mono _)
      | (with_reducible exact changeoverref22_Has.mono _ _ _)
      | (with_reducible exact changeoverref22_Large.mono _ _)
      | (with_reducible exact changeoverref22_Last.mono _ _ _)
      | (with_reducible exact changeoverref22_Rise.mono _ _)
      | (with_reducible exact sess_Last.mono _ _ _)
      | (with_reducible exact sess_Which.mono _ _ _ _)
      | (with_reducible exact LeO.refl _)
      | (with_reducible exact LeO.none _)
      | (with_reducible refine LeO.ite ?_ ?_)
      | (with_reducible refine LeO.bind ?_ (fun _ => ?_))
      | exact ih0 _ _ _ _
      | exact ih1 _ _ _ _ _ _ _ _ _ _ _ _ _ _ _ _ _ _ _
      | exact ih2 _ _ _ _ _ _ _ _ _ _ _ _ _ _ _ _ _
      | exact changeoverlaw22_awake.mono _
      | exact changeoverref22_Has.mono _ _ _
      | exact changeoverref22_Large.mono _ _
      | exact changeoverref22_Last.mono _ _ _
      | exact changeoverref22_Rise.mono _ _
      | exact sess_Last.mono _ _ _
      | exact sess_Which.mono _ _ _ _
      | exact LeO.none _
      | refine LeO.ite ?_ ?_
      | refine LeO.bind ?_ (fun _ => ?_)
theorem changeoverlaw22_SessWhich.mono : ∀ a0 a1 a2 k, LeO (changeoverlaw22_SessWhich.f k a0 a1 a2) (changeoverlaw22_SessWhich.f (k + 1) a0 a1 a2) := by
  intro a0 a1 a2 k
  obtain ⟨ih0, ih1, ih2⟩ := changeoverlaw22_SessWhich.mono_l k
  unfold changeoverlaw22_SessWhich.f
  repeat' first
      | (with_reducible exact ih0 _ _ _ _)
      | (with_reducible exact ih1 _ _ _ _ _ _ _ _ _ _ _ _ _ _ _ _ _ _ _)
      | (with_reducible exact ih2 _ _ _ _ _ _ _ _ _ _ _ _ _ _ _ _ _)
      | (with_reducible exact changeoverlaw22_awake.mono _)
      | (with_reducible exact changeoverref22_Has.mono _ _ _)
      | (with_reducible exact changeoverref22_Large.mono _ _)
      | (with_reducible exact changeoverref22_Last.mono _ _ _)
      | (with_reducible exact changeoverref22_Rise.mono _ _)
      | (with_reducible exact sess_Last.mono _ _ _)
      | (with_reducible exact sess_Which.mono _ _ _ _)
      | (with_reducible exact LeO.refl _)
      | (with_reducible exact LeO.none _)
      | (with_reducible refine LeO.ite ?_ ?_)
      | (with_reducible refine LeO.bind ?_ (fun _ => ?_))
      | exact ih0 _ _ _ _
      | exact ih1 _ _ _ _ _ _ _ _ _ _ _ _ _ _ _ _ _ _ _
      | exact ih2 _ _ _ _ _ _ _ _ _ _ _ _ _ _ _ _ _
      | exact changeoverlaw22_awake.mono _
      | exact changeoverref22_Has.mono _ _ _
      | exact changeoverref22_Large.mono _ _
      | exact changeoverref22_Last.mono _ _ _
      | exact changeoverref22_Rise.mono _ _
      | exact sess_Last.mono _ _ _
      | exact sess_Which.mono _ _ _ _
      | exact LeO.none _
      | refine LeO.ite ?_ ?_
      | refine LeO.bind ?_ (fun _ => ?_)
set_option maxHeartbeats 8000000 in
set_option maxRecDepth 100000 in
theorem changeoverlaw22_SessWhich.calls (k : Nat) (A0 : Option Addr) (c0 : Nat) (l0 : List (S111)) (a1 : Int) (a2 : Int) (r : Bool) (w : World) (hr0 : Kd.C k111 w A0 l0.length l0) (hc0 : l0.length ≤ c0) (h : changeoverlaw22_SessWhich.f k l0 a1 a2 = some r) :
    Calls Try.prog 8 #[.slice A0 l0.length c0, .int .i64 a1, .int .i64 a2] w fun e w' => e = .returned (.bool r) ∧ Below w.heap.size w w' := by
  have hu60 := Try.underlying60
  have HR0 := Aside0.mk hr0
  have HC0 := Aside0.mk hc0
  clear hr0 hc0
  have HB := Aside0.mk (Below.refl w.heap.size w)
  have H : ((changeoverref22_Large.f k l0).bind fun t388 => (if t388 = true then (changeoverlaw22_SessWhich.j0 k l0 a1 a2 true) else ((changeoverref22_Rise.f k l0).bind fun t389 => (changeoverlaw22_SessWhich.j0 k l0 a1 a2 (!t389))))) = some r := h
  clear h
  have HC4 := Aside0.mk H
  clear H
  go_enter Try.func8, Try.ntmps8
  go_upto_region 1 with (fail)
  go_cut [18] (fun v18 wc => ∃ (kq : Nat) (x18_3 : Bool), v18 = .bool x18_3 ∧ Aside0 (changeoverlaw22_SessWhich.j0 kq l0 a1 a2 x18_3 = some r) ∧ Aside0 (kq ≤ k) ∧ Aside0 (Below w.heap.size w wc))
  case first =>
    have H := HC4.out
    clear HC4
    replace H := Option.bind_eq_some_iff.mp H
    obtain ⟨t388, A50, H⟩ := H
    replace H : (if t388 = true then (changeoverlaw22_SessWhich.j0 k l0 a1 a2 true) else ((changeoverref22_Rise.f k l0).bind fun t389 => (changeoverlaw22_SessWhich.j0 k l0 a1 a2 (!t389)))) = some r := H
    have A5 := Aside0.mk A50
    clear A50
    by_cases c6 : t388 = true
    · subst c6
      have H1 : (changeoverlaw22_SessWhich.j0 k l0 a1 a2 true) = some r := by rw [if_pos rfl] at H; exact H
      clear H
      have H := H1
      clear H1
      have H' := Aside0.mk H
      clear H
      go_wp2_with (first | ((with_reducible refine gate_callee (f := 45) rfl ?_); refine goesL_ (some 13) rfl rfl Try.func45 (by kernel_rfl) rfl #[.slice A0 l0.length c0] rfl (by (try simp only [List.map_toArray, List.map_cons, List.map_nil]); first | done | rfl | (simp only [List.length_drop, List.length_take]; rfl)) ?_; (with_reducible refine (changeoverref22_Large.calls k _ _ l0 true _ ?side1 ?side2 A5.out).mono ?_); (case side1 => repeat (first | exact (Kd.C_below HR0.out HB.out) | (with_reducible refine Kd.C_alloc ?_ _) | (with_reducible refine Kd.C_drewN ?_ _) | (with_reducible refine Kd.C_drew ?_))); (case side2 => exact HC0.out); rintro e w' ⟨rfl, ⟨nd, rfl⟩⟩; refine ⟨_, rfl, ?_⟩))
      go_meet
      case rel => exact ⟨_, (true), (by first | rfl | (simp; done) | (simp [*]; done)), H', ⟨by first | omega | exact Nat.le_refl _⟩, ⟨by repeat (first | (with_reducible first | exact HB.out | apply below_alloc | apply pw_below_drewN | apply below_drew1) | exact HB.out)⟩⟩
    · replace c6 := Bool.eq_false_iff.mpr c6
      subst c6
      have H1 : ((changeoverref22_Rise.f k l0).bind fun t389 => (changeoverlaw22_SessWhich.j0 k l0 a1 a2 (!t389))) = some r := by rw [if_neg (show ¬ (false = true) by decide)] at H; exact H
      clear H
      have H := H1
      clear H1
      replace H := Option.bind_eq_some_iff.mp H
      obtain ⟨t389, A70, H⟩ := H
      replace H : (changeoverlaw22_SessWhich.j0 k l0 a1 a2 (!t389)) = some r := H
      have A7 := Aside0.mk A70
      clear A70
      have H' := Aside0.mk H
      clear H
      go_wp2_with (first | ((with_reducible refine gate_callee (f := 45) rfl ?_); refine goesL_ (some 13) rfl rfl Try.func45 (by kernel_rfl) rfl #[.slice A0 l0.length c0] rfl (by (try simp only [List.map_toArray, List.map_cons, List.map_nil]); first | done | rfl | (simp only [List.length_drop, List.length_take]; rfl)) ?_; (with_reducible refine (changeoverref22_Large.calls k _ _ l0 false _ ?side1 ?side2 A5.out).mono ?_); (case side1 => repeat (first | exact (Kd.C_below HR0.out HB.out) | (with_reducible refine Kd.C_alloc ?_ _) | (with_reducible refine Kd.C_drewN ?_ _) | (with_reducible refine Kd.C_drew ?_))); (case side2 => exact HC0.out); rintro e w' ⟨rfl, ⟨nd, rfl⟩⟩; refine ⟨_, rfl, ?_⟩) | (go_at_call 46; (with_reducible refine (changeoverref22_Rise.calls k _ _ l0 t389 _ ?side1 ?side2 A7.out).mono ?_); (case side1 => repeat (first | exact (Kd.C_below HR0.out (by repeat (first | (with_reducible first | exact HB.out | apply below_alloc | apply pw_below_drewN | apply below_drew1) | exact HB.out))) | (with_reducible refine Kd.C_alloc ?_ _) | (with_reducible refine Kd.C_drewN ?_ _) | (with_reducible refine Kd.C_drew ?_))); (case side2 => exact HC0.out); rintro e w' ⟨rfl, ⟨nd, rfl⟩⟩))
      go_meet
      case rel => exact ⟨_, (!t389), (by first | rfl | (simp; done) | (simp [*]; done)), H', ⟨by first | omega | exact Nat.le_refl _⟩, ⟨by repeat (first | (with_reducible first | exact HB.out | apply below_alloc | apply pw_below_drewN | apply below_drew1) | exact HB.out)⟩⟩
  case rest =>
    clear HC4
    try clear p2
    try clear c4
    try clear c6
    obtain ⟨kq, x18_3, rfl, HA, HJ3, HB⟩ := hcut
    cases kq with
    | zero => exact absurd HA.out (by simp [changeoverlaw22_SessWhich.j0])
    | succ kj3 =>
      have H := HA.out
      clear HA
      simp only [changeoverlaw22_SessWhich.j0] at H
      by_cases c8 : x18_3 = true
      · subst c8
        have H1 : ((changeoverlaw22_awake.f kj3).bind fun t390 => (some t390)) = some r := by rw [if_pos rfl] at H; exact H
        clear H
        have H := H1
        clear H1
        replace H := Option.bind_eq_some_iff.mp H
        obtain ⟨t390, A90, H⟩ := H
        replace H : (some t390) = some r := H
        have A9 := Aside0.mk A90
        clear A90
        obtain rfl := Option.some.inj H
        go_wp2_with (first | ((with_reducible refine gate_callee (f := 47) rfl ?_); refine goesL_ (some 19) rfl rfl Try.func47 (by kernel_rfl) rfl #[] rfl (by (try simp only [List.map_toArray, List.map_cons, List.map_nil]); first | done | rfl | (simp only [List.length_drop, List.length_take]; rfl)) ?_; (with_reducible refine (changeoverlaw22_awake.calls kj3  t390 _ A9.out).mono ?_); rintro e w10 ⟨rfl, hb⟩; refine ⟨_, rfl, ?_⟩; have n0_ := Aside0.mk (below_step (by repeat (first | (with_reducible first | exact HB.out | apply below_alloc | apply pw_below_drewN | apply below_drew1) | exact HB.out)) hb); clear HB; have HB := n0_; clear n0_; (try clear hb); (try clear hb2); (try clear hk); (try clear hi)))
        go_ret
        exact ⟨by first | rfl | (simp [errW_none, errW_some] <;> rfl) | (simp [*, errW_none, errW_some] <;> rfl), by repeat (first | (with_reducible first | exact HB.out | apply below_alloc | apply pw_below_drewN | apply below_drew1) | exact HB.out)⟩
      · replace c8 := Bool.eq_false_iff.mpr c8
        subst c8
        have H1 : ((sess_Which.f kj3 l0 a1 a2).bind fun bt391 => ((changeoverref22_Last.f kj3 l0 a1).bind fun bt399 => ((changeoverref22_Has.f kj3 l0 a1).bind fun t407 => (if t407 = true then (changeoverlaw22_SessWhich.j1 kj3 l0 a1 a2 bt391.1 bt399.1 0 (decide (a2 ≤ bt399.1)) bt391.2.1 bt391.2.2.1 bt391.2.2.2.1 bt391.2.2.2.2.1 bt391.2.2.2.2.2.1 bt391.2.2.2.2.2.2 bt399.2.1 bt399.2.2.1 bt399.2.2.2.1 bt399.2.2.2.2.1 bt399.2.2.2.2.2.1 bt399.2.2.2.2.2.2) else (changeoverlaw22_SessWhich.j1 kj3 l0 a1 a2 bt391.1 bt399.1 0 false bt391.2.1 bt391.2.2.1 bt391.2.2.2.1 bt391.2.2.2.2.1 bt391.2.2.2.2.2.1 bt391.2.2.2.2.2.2 bt399.2.1 bt399.2.2.1 bt399.2.2.2.1 bt399.2.2.2.2.1 bt399.2.2.2.2.2.1 bt399.2.2.2.2.2.2))))) = some r := by rw [if_neg (show ¬ (false = true) by decide)] at H; exact H
        clear H
        have H := H1
        clear H1
        replace H := Option.bind_eq_some_iff.mp H
        obtain ⟨⟨t391, t392, t393, t394, t395, t396, t397⟩, A110, H⟩ := H
        replace H : ((changeoverref22_Last.f kj3 l0 a1).bind fun bt399 => ((changeoverref22_Has.f kj3 l0 a1).bind fun t407 => (if t407 = true then (changeoverlaw22_SessWhich.j1 kj3 l0 a1 a2 t391 bt399.1 0 (decide (a2 ≤ bt399.1)) t392 t393 t394 t395 t396 t397 bt399.2.1 bt399.2.2.1 bt399.2.2.2.1 bt399.2.2.2.2.1 bt399.2.2.2.2.2.1 bt399.2.2.2.2.2.2) else (changeoverlaw22_SessWhich.j1 kj3 l0 a1 a2 t391 bt399.1 0 false t392 t393 t394 t395 t396 t397 bt399.2.1 bt399.2.2.1 bt399.2.2.2.1 bt399.2.2.2.2.1 bt399.2.2.2.2.2.1 bt399.2.2.2.2.2.2)))) = some r := H
        have A11 := Aside0.mk A110
        clear A110
        replace H := Option.bind_eq_some_iff.mp H
        obtain ⟨⟨t399, t400, t401, t402, t403, t404, t405⟩, A120, H⟩ := H
        replace H : ((changeoverref22_Has.f kj3 l0 a1).bind fun t407 => (if t407 = true then (changeoverlaw22_SessWhich.j1 kj3 l0 a1 a2 t391 t399 0 (decide (a2 ≤ t399)) t392 t393 t394 t395 t396 t397 t400 t401 t402 t403 t404 t405) else (changeoverlaw22_SessWhich.j1 kj3 l0 a1 a2 t391 t399 0 false t392 t393 t394 t395 t396 t397 t400 t401 t402 t403 t404 t405))) = some r := H
        have A12 := Aside0.mk A120
        clear A120
        have HC13 := Aside0.mk H
        clear H
        go_upto_region 6 with (first | ((with_reducible refine gate_callee (f := 48) rfl ?_); refine goesL_ (some 24) rfl rfl Try.func48 (by kernel_rfl) rfl #[.slice A0 l0.length c0, .int .i64 a1, .int .i64 a2] rfl (by (try simp only [List.map_toArray, List.map_cons, List.map_nil]); first | done | rfl | (simp only [List.length_drop, List.length_take]; rfl)) ?_; (with_reducible refine (sess_Which.calls kj3 _ _ l0 a1 a2 t391 t392 t393 t394 t395 t396 t397 _ ?side1 ?side2 A11.out).mono ?_); (case side1 => repeat (first | exact (Kd.C_below HR0.out HB.out) | (with_reducible refine Kd.C_alloc ?_ _) | (with_reducible refine Kd.C_drewN ?_ _) | (with_reducible refine Kd.C_drew ?_))); (case side2 => exact HC0.out); rintro e w14 ⟨rfl, hb⟩; refine ⟨_, rfl, ?_⟩; have n0_ := Aside0.mk (below_step (by repeat (first | (with_reducible first | exact HB.out | apply below_alloc | apply pw_below_drewN | apply below_drew1) | exact HB.out)) hb); clear HB; have HB := n0_; clear n0_; (try clear hb); (try clear hb2); (try clear hk); (try clear hi)) | ((with_reducible refine gate_dst (N := 8) rfl ?_); refine box_event ?hg (N := 8) ?hd (cs := #[.int .i64 0, .int .i64 0, .int .i64 0, .bool false, .string (⟨#[]⟩ : ByteArray), .int .i64 0]) (t := 60) ?hr ?_; (case hd => rfl); (case hg => rfl); (case hr => first | (go_simp; done) | (go_simp; rfl)); intro gb398 hg w15 hbox hb; have n0_ := Aside0.mk (below_step (by repeat (first | (with_reducible first | exact HB.out | apply below_alloc | apply pw_below_drewN | apply below_drew1) | exact HB.out)) hb); have n1_ := Aside0.mk (hbox); have n2_ := Aside0.mk ((by rw [hg]; exact (below_size (by repeat (first | (with_reducible first | exact HB.out | apply below_alloc | apply pw_below_drewN | apply below_drew1) | exact HB.out))) : w.heap.size ≤ gb398)); have n3_ := Aside0.mk ((by rw [hg]; exact (below_size (by repeat (first | (with_reducible first | exact HB.out | apply below_alloc | apply pw_below_drewN | apply below_drew1) | exact HB.out))) : w.heap.size ≤ gb398)); clear HB; have HB := n0_; have BK398 := n1_; have GW398 := n2_; have GE398 := n3_; clear n0_ n1_ n2_ n3_; clear hb hbox hg; have hcz16_0 : w15.cell? ⟨gb398, 0, none⟩ = some (.int .i64 0) := (blk_cell BK398.out 0).trans rfl; have hcz16_1 : w15.cell? ⟨gb398, 1, none⟩ = some (.int .i64 0) := (blk_cell BK398.out 1).trans rfl; have hcz16_2 : w15.cell? ⟨gb398, 2, none⟩ = some (.int .i64 0) := (blk_cell BK398.out 2).trans rfl; have hcz16_3 : w15.cell? ⟨gb398, 3, none⟩ = some (.bool false) := (blk_cell BK398.out 3).trans rfl; have hcz16_4 : w15.cell? ⟨gb398, 4, none⟩ = some (.string (⟨#[]⟩ : ByteArray)) := (blk_cell BK398.out 4).trans rfl; have hcz16_5 : w15.cell? ⟨gb398, 5, none⟩ = some (.int .i64 0) := (blk_cell BK398.out 5).trans rfl; have hfz16_0 := blk_frozen BK398.out 0; have hfz16_1 := blk_frozen BK398.out 1; have hfz16_2 := blk_frozen BK398.out 2; have hfz16_3 := blk_frozen BK398.out 3; have hfz16_4 := blk_frozen BK398.out 4; have hfz16_5 := blk_frozen BK398.out 5) | ((with_reducible refine gate_callee (f := 49) rfl ?_); refine goesL_ (some 30) rfl rfl Try.func49 (by kernel_rfl) rfl #[.slice A0 l0.length c0, .int .i64 a1] rfl (by (try simp only [List.map_toArray, List.map_cons, List.map_nil]); first | done | rfl | (simp only [List.length_drop, List.length_take]; rfl)) ?_; (with_reducible refine (changeoverref22_Last.calls kj3 _ _ l0 a1 t399 t400 t401 t402 t403 t404 t405 _ ?side1 ?side2 A12.out).mono ?_); (case side1 => exact Kd.C_below HR0.out (by repeat (first | (with_reducible first | exact HB.out | apply below_alloc | apply pw_below_drewN | apply below_drew1 | refine below_set ?_ GE398.out) | exact HB.out))); (case side2 => exact HC0.out); rintro e w17 ⟨rfl, hb⟩; refine ⟨_, rfl, ?_⟩; have n0_ := Aside0.mk (blk_below (g := gb398) (o := .cells #[.int .i64 t392, .int .i64 t393, .int .i64 t394, .bool t395, .string t396, .int .i64 t397] 60 (0, 0)) (by (with_reducible repeat (first | refine blk_drewN ?_ _ | refine blk_drew ?_ | refine blk_alloc ?_ _)); refine blk_put (cs := #[.int .i64 t392, .int .i64 t393, .int .i64 t394, .bool t395, .string t396, .int .i64 0]) ?_ 5 _ rfl; (with_reducible repeat (first | refine blk_drewN ?_ _ | refine blk_drew ?_ | refine blk_alloc ?_ _)); refine blk_put (cs := #[.int .i64 t392, .int .i64 t393, .int .i64 t394, .bool t395, .string (⟨#[]⟩ : ByteArray), .int .i64 0]) ?_ 4 _ rfl; (with_reducible repeat (first | refine blk_drewN ?_ _ | refine blk_drew ?_ | refine blk_alloc ?_ _)); refine blk_put (cs := #[.int .i64 t392, .int .i64 t393, .int .i64 t394, .bool false, .string (⟨#[]⟩ : ByteArray), .int .i64 0]) ?_ 3 _ rfl; (with_reducible repeat (first | refine blk_drewN ?_ _ | refine blk_drew ?_ | refine blk_alloc ?_ _)); refine blk_put (cs := #[.int .i64 t392, .int .i64 t393, .int .i64 0, .bool false, .string (⟨#[]⟩ : ByteArray), .int .i64 0]) ?_ 2 _ rfl; (with_reducible repeat (first | refine blk_drewN ?_ _ | refine blk_drew ?_ | refine blk_alloc ?_ _)); refine blk_put (cs := #[.int .i64 t392, .int .i64 0, .int .i64 0, .bool false, .string (⟨#[]⟩ : ByteArray), .int .i64 0]) ?_ 1 _ rfl; (with_reducible repeat (first | refine blk_drewN ?_ _ | refine blk_drew ?_ | refine blk_alloc ?_ _)); refine blk_put (cs := #[.int .i64 0, .int .i64 0, .int .i64 0, .bool false, .string (⟨#[]⟩ : ByteArray), .int .i64 0]) ?_ 0 _ rfl; (with_reducible repeat (first | refine blk_drewN ?_ _ | refine blk_drew ?_ | refine blk_alloc ?_ _)); exact BK398.out) hb); have n1_ := Aside0.mk (below_step (by repeat (first | (with_reducible first | exact HB.out | apply below_alloc | apply pw_below_drewN | apply below_drew1 | refine below_set ?_ GE398.out) | exact HB.out)) hb); clear BK398; clear HB; have BK398 := n0_; have HB := n1_; clear n0_ n1_; (try clear hb); (try clear hb2); (try clear hk); (try clear hi)) | ((with_reducible refine gate_dst (N := 10) rfl ?_); refine box_event ?hg (N := 10) ?hd (cs := #[.int .i64 0, .int .i64 0, .int .i64 0, .bool false, .string (⟨#[]⟩ : ByteArray), .int .i64 0]) (t := 60) ?hr ?_; (case hd => rfl); (case hg => rfl); (case hr => first | (go_simp; done) | (go_simp; rfl)); intro gb406 hg w18 hbox hb; have n0_ := Aside0.mk (blk_below (g := gb398) (o := .cells #[.int .i64 t392, .int .i64 t393, .int .i64 t394, .bool t395, .string t396, .int .i64 t397] 60 (0, 0)) (by (with_reducible repeat (first | refine blk_drewN ?_ _ | refine blk_drew ?_ | refine blk_alloc ?_ _)); exact BK398.out) hb); have n1_ := Aside0.mk (below_step (by repeat (first | (with_reducible first | exact HB.out | apply below_alloc | apply pw_below_drewN | apply below_drew1 | refine below_set ?_ GE398.out) | exact HB.out)) hb); have n2_ := Aside0.mk (hbox); have n3_ := Aside0.mk ((by rw [hg]; exact (below_size (by repeat (first | (with_reducible first | exact HB.out | apply below_alloc | apply pw_below_drewN | apply below_drew1 | refine below_set ?_ GE398.out) | exact HB.out))) : w.heap.size ≤ gb406)); have n4_ := Aside0.mk ((by rw [hg]; exact (below_size (by repeat (first | (with_reducible first | exact HB.out | apply below_alloc | apply pw_below_drewN | apply below_drew1 | refine below_set ?_ GE398.out) | exact HB.out))) : w.heap.size ≤ gb406)); have n5_ := Aside0.mk ((by rw [hg]; exact Nat.ne_of_lt (blk_lt (g := gb398) (o := .cells #[.int .i64 t392, .int .i64 t393, .int .i64 t394, .bool t395, .string t396, .int .i64 t397] 60 (0, 0)) (by (with_reducible repeat (first | refine blk_drewN ?_ _ | refine blk_drew ?_ | refine blk_alloc ?_ _)); exact BK398.out)) : gb398 ≠ gb406)); have n6_ := Aside0.mk ((by rw [hg]; exact Nat.ne_of_gt (blk_lt (g := gb398) (o := .cells #[.int .i64 t392, .int .i64 t393, .int .i64 t394, .bool t395, .string t396, .int .i64 t397] 60 (0, 0)) (by (with_reducible repeat (first | refine blk_drewN ?_ _ | refine blk_drew ?_ | refine blk_alloc ?_ _)); exact BK398.out)) : gb406 ≠ gb398)); clear BK398; clear HB; have BK398 := n0_; have HB := n1_; have BK406 := n2_; have GW406 := n3_; have GE406 := n4_; have NB398_406 := n5_; have NB406_398 := n6_; clear n0_ n1_ n2_ n3_ n4_ n5_ n6_; clear hb hbox hg; have hnb19 := NB406_398.out; have hnc19 := NB398_406.out; have hcz20_0 : w18.cell? ⟨gb406, 0, none⟩ = some (.int .i64 0) := (blk_cell BK406.out 0).trans rfl; have hcz20_1 : w18.cell? ⟨gb406, 1, none⟩ = some (.int .i64 0) := (blk_cell BK406.out 1).trans rfl; have hcz20_2 : w18.cell? ⟨gb406, 2, none⟩ = some (.int .i64 0) := (blk_cell BK406.out 2).trans rfl; have hcz20_3 : w18.cell? ⟨gb406, 3, none⟩ = some (.bool false) := (blk_cell BK406.out 3).trans rfl; have hcz20_4 : w18.cell? ⟨gb406, 4, none⟩ = some (.string (⟨#[]⟩ : ByteArray)) := (blk_cell BK406.out 4).trans rfl; have hcz20_5 : w18.cell? ⟨gb406, 5, none⟩ = some (.int .i64 0) := (blk_cell BK406.out 5).trans rfl; have hfz20_0 := blk_frozen BK406.out 0; have hfz20_1 := blk_frozen BK406.out 1; have hfz20_2 := blk_frozen BK406.out 2; have hfz20_3 := blk_frozen BK406.out 3; have hfz20_4 := blk_frozen BK406.out 4; have hfz20_5 := blk_frozen BK406.out 5))
        (try simp only [Act.put, List.setIfInBounds_toArray, List.set_cons_zero, List.set_cons_succ])
        go_cut [40] (fun v40 wc => ∃ (kq : Nat) (x40_12 : Bool), v40 = .bool x40_12 ∧ Aside0 (changeoverlaw22_SessWhich.j1 kq l0 a1 a2 t391 t399 0 x40_12 t392 t393 t394 t395 t396 t397 t400 t401 t402 t403 t404 t405 = some r) ∧ Aside0 (kq ≤ kj3) ∧ Aside0 (wc.heap[gb398]? = some (.cells #[.int .i64 t392, .int .i64 t393, .int .i64 t394, .bool t395, .string t396, .int .i64 t397] 60 (0, 0))) ∧ Aside0 (wc.heap[gb406]? = some (.cells #[.int .i64 t400, .int .i64 t401, .int .i64 t402, .bool t403, .string t404, .int .i64 t405] 60 (0, 0))) ∧ Aside0 (Below w.heap.size w wc))
        case first =>
          have H := HC13.out
          clear HC13
          replace H := Option.bind_eq_some_iff.mp H
          obtain ⟨t407, A210, H⟩ := H
          replace H : (if t407 = true then (changeoverlaw22_SessWhich.j1 kj3 l0 a1 a2 t391 t399 0 (decide (a2 ≤ t399)) t392 t393 t394 t395 t396 t397 t400 t401 t402 t403 t404 t405) else (changeoverlaw22_SessWhich.j1 kj3 l0 a1 a2 t391 t399 0 false t392 t393 t394 t395 t396 t397 t400 t401 t402 t403 t404 t405)) = some r := H
          have A21 := Aside0.mk A210
          clear A210
          by_cases c22 : t407 = true
          · subst c22
            have H1 : (changeoverlaw22_SessWhich.j1 kj3 l0 a1 a2 t391 t399 0 (decide (a2 ≤ t399)) t392 t393 t394 t395 t396 t397 t400 t401 t402 t403 t404 t405) = some r := by rw [if_pos rfl] at H; exact H
            clear H
            have H := H1
            clear H1
            have H' := Aside0.mk H
            clear H
            go_wp2_with (first | ((with_reducible refine gate_callee (f := 50) rfl ?_); refine goesL_ (some 35) rfl rfl Try.func50 (by kernel_rfl) rfl #[.slice A0 l0.length c0, .int .i64 a1] rfl (by (try simp only [List.map_toArray, List.map_cons, List.map_nil]); first | done | rfl | (simp only [List.length_drop, List.length_take]; rfl)) ?_; (with_reducible refine (changeoverref22_Has.calls kj3 _ _ l0 a1 true _ ?side1 ?side2 A21.out).mono ?_); (case side1 => exact Kd.C_below HR0.out (by repeat (first | (with_reducible first | exact HB.out | apply below_alloc | apply pw_below_drewN | apply below_drew1 | refine below_set ?_ GE398.out | refine below_set ?_ GE406.out) | exact HB.out))); (case side2 => exact HC0.out); rintro e w' ⟨rfl, ⟨nd, rfl⟩⟩; refine ⟨_, rfl, ?_⟩))
            go_meet
            case rel => exact ⟨_, (decide (a2 ≤ t399)), (by first | rfl | (simp; done) | (simp [*]; done)), H', ⟨by have := HJ3.out; first | omega | exact Nat.le_refl _⟩, ⟨by (with_reducible repeat (first | refine blk_drewN ?_ _ | refine blk_drew ?_ | refine blk_alloc ?_ _)); refine blk_far ?_ NB398_406.out _; (with_reducible repeat (first | refine blk_drewN ?_ _ | refine blk_drew ?_ | refine blk_alloc ?_ _)); refine blk_far ?_ NB398_406.out _; (with_reducible repeat (first | refine blk_drewN ?_ _ | refine blk_drew ?_ | refine blk_alloc ?_ _)); refine blk_far ?_ NB398_406.out _; (with_reducible repeat (first | refine blk_drewN ?_ _ | refine blk_drew ?_ | refine blk_alloc ?_ _)); refine blk_far ?_ NB398_406.out _; (with_reducible repeat (first | refine blk_drewN ?_ _ | refine blk_drew ?_ | refine blk_alloc ?_ _)); refine blk_far ?_ NB398_406.out _; (with_reducible repeat (first | refine blk_drewN ?_ _ | refine blk_drew ?_ | refine blk_alloc ?_ _)); refine blk_far ?_ NB398_406.out _; (with_reducible repeat (first | refine blk_drewN ?_ _ | refine blk_drew ?_ | refine blk_alloc ?_ _)); exact BK398.out⟩, ⟨by (with_reducible repeat (first | refine blk_drewN ?_ _ | refine blk_drew ?_ | refine blk_alloc ?_ _)); refine blk_put (cs := #[.int .i64 t400, .int .i64 t401, .int .i64 t402, .bool t403, .string t404, .int .i64 0]) ?_ 5 _ rfl; (with_reducible repeat (first | refine blk_drewN ?_ _ | refine blk_drew ?_ | refine blk_alloc ?_ _)); refine blk_put (cs := #[.int .i64 t400, .int .i64 t401, .int .i64 t402, .bool t403, .string (⟨#[]⟩ : ByteArray), .int .i64 0]) ?_ 4 _ rfl; (with_reducible repeat (first | refine blk_drewN ?_ _ | refine blk_drew ?_ | refine blk_alloc ?_ _)); refine blk_put (cs := #[.int .i64 t400, .int .i64 t401, .int .i64 t402, .bool false, .string (⟨#[]⟩ : ByteArray), .int .i64 0]) ?_ 3 _ rfl; (with_reducible repeat (first | refine blk_drewN ?_ _ | refine blk_drew ?_ | refine blk_alloc ?_ _)); refine blk_put (cs := #[.int .i64 t400, .int .i64 t401, .int .i64 0, .bool false, .string (⟨#[]⟩ : ByteArray), .int .i64 0]) ?_ 2 _ rfl; (with_reducible repeat (first | refine blk_drewN ?_ _ | refine blk_drew ?_ | refine blk_alloc ?_ _)); refine blk_put (cs := #[.int .i64 t400, .int .i64 0, .int .i64 0, .bool false, .string (⟨#[]⟩ : ByteArray), .int .i64 0]) ?_ 1 _ rfl; (with_reducible repeat (first | refine blk_drewN ?_ _ | refine blk_drew ?_ | refine blk_alloc ?_ _)); refine blk_put (cs := #[.int .i64 0, .int .i64 0, .int .i64 0, .bool false, .string (⟨#[]⟩ : ByteArray), .int .i64 0]) ?_ 0 _ rfl; (with_reducible repeat (first | refine blk_drewN ?_ _ | refine blk_drew ?_ | refine blk_alloc ?_ _)); exact BK406.out⟩, ⟨by repeat (first | (with_reducible first | exact HB.out | apply below_alloc | apply pw_below_drewN | apply below_drew1 | refine below_set ?_ GE398.out | refine below_set ?_ GE406.out) | exact HB.out)⟩⟩
          · replace c22 := Bool.eq_false_iff.mpr c22
            subst c22
            have H1 : (changeoverlaw22_SessWhich.j1 kj3 l0 a1 a2 t391 t399 0 false t392 t393 t394 t395 t396 t397 t400 t401 t402 t403 t404 t405) = some r := by rw [if_neg (show ¬ (false = true) by decide)] at H; exact H
            clear H
            have H := H1
            clear H1
            have H' := Aside0.mk H
            clear H
            go_wp2_with (first | ((with_reducible refine gate_callee (f := 50) rfl ?_); refine goesL_ (some 35) rfl rfl Try.func50 (by kernel_rfl) rfl #[.slice A0 l0.length c0, .int .i64 a1] rfl (by (try simp only [List.map_toArray, List.map_cons, List.map_nil]); first | done | rfl | (simp only [List.length_drop, List.length_take]; rfl)) ?_; (with_reducible refine (changeoverref22_Has.calls kj3 _ _ l0 a1 false _ ?side1 ?side2 A21.out).mono ?_); (case side1 => exact Kd.C_below HR0.out (by repeat (first | (with_reducible first | exact HB.out | apply below_alloc | apply pw_below_drewN | apply below_drew1 | refine below_set ?_ GE398.out | refine below_set ?_ GE406.out) | exact HB.out))); (case side2 => exact HC0.out); rintro e w' ⟨rfl, ⟨nd, rfl⟩⟩; refine ⟨_, rfl, ?_⟩))
            go_meet
            case rel => exact ⟨_, (false), (by first | rfl | (simp; done) | (simp [*]; done)), H', ⟨by have := HJ3.out; first | omega | exact Nat.le_refl _⟩, ⟨by (with_reducible repeat (first | refine blk_drewN ?_ _ | refine blk_drew ?_ | refine blk_alloc ?_ _)); refine blk_far ?_ NB398_406.out _; (with_reducible repeat (first | refine blk_drewN ?_ _ | refine blk_drew ?_ | refine blk_alloc ?_ _)); refine blk_far ?_ NB398_406.out _; (with_reducible repeat (first | refine blk_drewN ?_ _ | refine blk_drew ?_ | refine blk_alloc ?_ _)); refine blk_far ?_ NB398_406.out _; (with_reducible repeat (first | refine blk_drewN ?_ _ | refine blk_drew ?_ | refine blk_alloc ?_ _)); refine blk_far ?_ NB398_406.out _; (with_reducible repeat (first | refine blk_drewN ?_ _ | refine blk_drew ?_ | refine blk_alloc ?_ _)); refine blk_far ?_ NB398_406.out _; (with_reducible repeat (first | refine blk_drewN ?_ _ | refine blk_drew ?_ | refine blk_alloc ?_ _)); refine blk_far ?_ NB398_406.out _; (with_reducible repeat (first | refine blk_drewN ?_ _ | refine blk_drew ?_ | refine blk_alloc ?_ _)); exact BK398.out⟩, ⟨by (with_reducible repeat (first | refine blk_drewN ?_ _ | refine blk_drew ?_ | refine blk_alloc ?_ _)); refine blk_put (cs := #[.int .i64 t400, .int .i64 t401, .int .i64 t402, .bool t403, .string t404, .int .i64 0]) ?_ 5 _ rfl; (with_reducible repeat (first | refine blk_drewN ?_ _ | refine blk_drew ?_ | refine blk_alloc ?_ _)); refine blk_put (cs := #[.int .i64 t400, .int .i64 t401, .int .i64 t402, .bool t403, .string (⟨#[]⟩ : ByteArray), .int .i64 0]) ?_ 4 _ rfl; (with_reducible repeat (first | refine blk_drewN ?_ _ | refine blk_drew ?_ | refine blk_alloc ?_ _)); refine blk_put (cs := #[.int .i64 t400, .int .i64 t401, .int .i64 t402, .bool false, .string (⟨#[]⟩ : ByteArray), .int .i64 0]) ?_ 3 _ rfl; (with_reducible repeat (first | refine blk_drewN ?_ _ | refine blk_drew ?_ | refine blk_alloc ?_ _)); refine blk_put (cs := #[.int .i64 t400, .int .i64 t401, .int .i64 0, .bool false, .string (⟨#[]⟩ : ByteArray), .int .i64 0]) ?_ 2 _ rfl; (with_reducible repeat (first | refine blk_drewN ?_ _ | refine blk_drew ?_ | refine blk_alloc ?_ _)); refine blk_put (cs := #[.int .i64 t400, .int .i64 0, .int .i64 0, .bool false, .string (⟨#[]⟩ : ByteArray), .int .i64 0]) ?_ 1 _ rfl; (with_reducible repeat (first | refine blk_drewN ?_ _ | refine blk_drew ?_ | refine blk_alloc ?_ _)); refine blk_put (cs := #[.int .i64 0, .int .i64 0, .int .i64 0, .bool false, .string (⟨#[]⟩ : ByteArray), .int .i64 0]) ?_ 0 _ rfl; (with_reducible repeat (first | refine blk_drewN ?_ _ | refine blk_drew ?_ | refine blk_alloc ?_ _)); exact BK406.out⟩, ⟨by repeat (first | (with_reducible first | exact HB.out | apply below_alloc | apply pw_below_drewN | apply below_drew1 | refine below_set ?_ GE398.out | refine below_set ?_ GE406.out) | exact HB.out)⟩⟩
        case rest =>
          clear HC13
          try clear c1
          try clear c2
          try clear p2
          try clear c4
          try clear c5
          try clear c6
          try clear c8
          try clear c19
          try clear c22
          try clear hcz16_0
          try clear hcz16_1
          try clear hcz16_2
          try clear hcz16_3
          try clear hcz16_4
          try clear hcz16_5
          try clear hcz20_0
          try clear hcz20_1
          try clear hcz20_2
          try clear hcz20_3
          try clear hcz20_4
          try clear hcz20_5
          try clear hfz16_0
          try clear hfz16_1
          try clear hfz16_2
          try clear hfz16_3
          try clear hfz16_4
          try clear hfz16_5
          try clear hfz20_0
          try clear hfz20_1
          try clear hfz20_2
          try clear hfz20_3
          try clear hfz20_4
          try clear hfz20_5
          try clear p2
          obtain ⟨kq, x40_12, rfl, HA, HJ12, BK398, BK406, HB⟩ := hcut
          cases kq with
          | zero => exact absurd HA.out (by simp [changeoverlaw22_SessWhich.j1])
          | succ kj12 =>
            have H := HA.out
            clear HA
            simp only [changeoverlaw22_SessWhich.j1] at H
            have HC23 := Aside0.mk H
            clear H
            go_upto_if 40 with (fail)
            go_cut [11] (fun v11 wc => ∃ (kq : Nat) (x11_22 : Int), v11 = .int .i64 x11_22 ∧ Aside0 (changeoverlaw22_SessWhich.j2 kq l0 a1 t391 t399 x11_22 t392 t393 t394 t395 t396 t397 t400 t401 t402 t403 t404 t405 = some r) ∧ Aside0 (kq ≤ kj12) ∧ Aside0 (wc.heap[gb398]? = some (.cells #[.int .i64 t392, .int .i64 t393, .int .i64 t394, .bool t395, .string t396, .int .i64 t397] 60 (0, 0))) ∧ Aside0 (wc.heap[gb406]? = some (.cells #[.int .i64 t400, .int .i64 t401, .int .i64 t402, .bool t403, .string t404, .int .i64 t405] 60 (0, 0))) ∧ Aside0 (Below w.heap.size w wc))
            case first =>
              have H := HC23.out
              clear HC23
              by_cases c24 : x40_12 = true
              · subst c24
                have H1 : (if a2 = t399 then (changeoverlaw22_SessWhich.j2 kj12 l0 a1 t391 t399 1 t392 t393 t394 t395 t396 t397 t400 t401 t402 t403 t404 t405) else (changeoverlaw22_SessWhich.j2 kj12 l0 a1 t391 t399 2 t392 t393 t394 t395 t396 t397 t400 t401 t402 t403 t404 t405)) = some r := by rw [if_pos rfl] at H; exact H
                clear H
                have H := H1
                clear H1
                by_cases c25 : a2 = t399
                · rw [if_pos c25] at H
                  have c25b0 : (a2 == t399) = true := beq_iff_eq.mpr c25
                  have c25b1 : (a2 != t399) = false := bne_eq_false_iff_eq.mpr c25
                  clear c25
                  (first | rw [c25b0] | (simp only [i64_w, i32_w]; rw [c25b0]) | skip)
                  have H' := Aside0.mk H
                  clear H
                  go_wp2
                  go_meet
                  case rel => exact ⟨_, (1), (by first | rfl | (simp; done) | (simp [*]; done)), H', ⟨by have := HJ3.out; have := HJ12.out; first | omega | exact Nat.le_refl _⟩, ⟨by (with_reducible repeat (first | refine blk_drewN ?_ _ | refine blk_drew ?_ | refine blk_alloc ?_ _)); exact BK398.out⟩, ⟨by (with_reducible repeat (first | refine blk_drewN ?_ _ | refine blk_drew ?_ | refine blk_alloc ?_ _)); exact BK406.out⟩, ⟨by repeat (first | (with_reducible first | exact HB.out | apply below_alloc | apply pw_below_drewN | apply below_drew1 | refine below_set ?_ GE398.out | refine below_set ?_ GE406.out) | exact HB.out)⟩⟩
                · rw [if_neg c25] at H
                  have c25b0 : (a2 == t399) = false := beq_eq_false_iff_ne.mpr c25
                  have c25b1 : (a2 != t399) = true := bne_iff_ne.mpr c25
                  (first | rw [c25b0] | (simp only [i64_w, i32_w]; rw [c25b0]) | skip)
                  have H' := Aside0.mk H
                  clear H
                  go_wp2
                  go_meet
                  case rel => exact ⟨_, (2), (by first | rfl | (simp; done) | (simp [*]; done)), H', ⟨by have := HJ3.out; have := HJ12.out; first | omega | exact Nat.le_refl _⟩, ⟨by (with_reducible repeat (first | refine blk_drewN ?_ _ | refine blk_drew ?_ | refine blk_alloc ?_ _)); exact BK398.out⟩, ⟨by (with_reducible repeat (first | refine blk_drewN ?_ _ | refine blk_drew ?_ | refine blk_alloc ?_ _)); exact BK406.out⟩, ⟨by repeat (first | (with_reducible first | exact HB.out | apply below_alloc | apply pw_below_drewN | apply below_drew1 | refine below_set ?_ GE398.out | refine below_set ?_ GE406.out) | exact HB.out)⟩⟩
              · replace c24 := Bool.eq_false_iff.mpr c24
                subst c24
                have H1 : (changeoverlaw22_SessWhich.j2 kj12 l0 a1 t391 t399 0 t392 t393 t394 t395 t396 t397 t400 t401 t402 t403 t404 t405) = some r := by rw [if_neg (show ¬ (false = true) by decide)] at H; exact H
                clear H
                have H := H1
                clear H1
                have H' := Aside0.mk H
                clear H
                go_wp2
                go_meet
                case rel => exact ⟨_, (0), (by first | rfl | (simp; done) | (simp [*]; done)), H', ⟨by have := HJ3.out; have := HJ12.out; first | omega | exact Nat.le_refl _⟩, ⟨by (with_reducible repeat (first | refine blk_drewN ?_ _ | refine blk_drew ?_ | refine blk_alloc ?_ _)); exact BK398.out⟩, ⟨by (with_reducible repeat (first | refine blk_drewN ?_ _ | refine blk_drew ?_ | refine blk_alloc ?_ _)); exact BK406.out⟩, ⟨by repeat (first | (with_reducible first | exact HB.out | apply below_alloc | apply pw_below_drewN | apply below_drew1 | refine below_set ?_ GE398.out | refine below_set ?_ GE406.out) | exact HB.out)⟩⟩
            case rest =>
              clear HC23
              try clear c1
              try clear c2
              try clear p2
              try clear c4
              try clear c5
              try clear c6
              try clear c8
              try clear c19
              try clear c22
              try clear c24
              try clear c25
              try clear c25b0
              try clear c25b1
              try clear hcz16_0
              try clear hcz16_1
              try clear hcz16_2
              try clear hcz16_3
              try clear hcz16_4
              try clear hcz16_5
              try clear hcz20_0
              try clear hcz20_1
              try clear hcz20_2
              try clear hcz20_3
              try clear hcz20_4
              try clear hcz20_5
              try clear hfz16_0
              try clear hfz16_1
              try clear hfz16_2
              try clear hfz16_3
              try clear hfz16_4
              try clear hfz16_5
              try clear hfz20_0
              try clear hfz20_1
              try clear hfz20_2
              try clear hfz20_3
              try clear hfz20_4
              try clear hfz20_5
              try clear p2
              obtain ⟨kq, x11_22, rfl, HA, HJ22, BK398, BK406, HB⟩ := hcut
              cases kq with
              | zero => exact absurd HA.out (by simp [changeoverlaw22_SessWhich.j2])
              | succ kj22 =>
                have H := HA.out
                clear HA
                simp only [changeoverlaw22_SessWhich.j2] at H
                by_cases c26 : x11_22 = 1
                · rw [if_pos c26] at H
                  have c26b0 : (x11_22 == 1) = true := beq_iff_eq.mpr c26
                  have c26b1 : (x11_22 != 1) = false := bne_eq_false_iff_eq.mpr c26
                  clear c26
                  by_cases c27 : t391 = x11_22
                  · rw [if_pos c27] at H
                    have c27b0 : (t391 == x11_22) = true := beq_iff_eq.mpr c27
                    have c27b1 : (t391 != x11_22) = false := bne_eq_false_iff_eq.mpr c27
                    clear c27
                    by_cases c28 : (t392 == t400 && (t393 == t401 && (t394 == t402 && (t395 == t403 && (t396.toList == t404.toList && (t397 == t405)))))) = true
                    · rw [if_pos c28] at H
                      have c28b0 : (t392 == t400 && (t393 == t401 && (t394 == t402 && (t395 == t403 && (t396.toList == t404.toList && (t397 == t405)))))) = true := c28
                      (try (have c28b1 : decide (t392 = t400 && (t393 == t401 && (t394 == t402 && (t395 == t403 && (t396.toList == t404.toList && (t397 == t405)))))) = true := by simpa using c28))
                      (try (have c28b2 : (t392 == t400 && (t393 == t401 && (t394 == t402 && (t395 == t403 && (t396.toList == t404.toList && (t397 == t405)))))) = true := by simpa using c28))
                      clear c28
                      replace H := Option.bind_eq_some_iff.mp H
                      obtain ⟨t408, A290, H⟩ := H
                      replace H : (if t408 = t399 then ((changeoverlaw22_awake.f kj22).bind fun t409 => (some t409)) else (some false)) = some r := H
                      have A29 := Aside0.mk A290
                      clear A290
                      by_cases c30 : t408 = t399
                      · rw [if_pos c30] at H
                        have c30b0 : (t408 == t399) = true := beq_iff_eq.mpr c30
                        have c30b1 : (t408 != t399) = false := bne_eq_false_iff_eq.mpr c30
                        clear c30
                        replace H := Option.bind_eq_some_iff.mp H
                        obtain ⟨t409, A310, H⟩ := H
                        replace H : (some t409) = some r := H
                        have A31 := Aside0.mk A310
                        clear A310
                        obtain rfl := Option.some.inj H
                        have hnb32 := NB398_406.out
                        have hnc32 := NB406_398.out
                        have hcz33_0 : wc.cell? ⟨gb398, 0, none⟩ = some (.int .i64 t392) := (blk_cell BK398.out 0).trans rfl
                        have hcz33_1 : wc.cell? ⟨gb398, 1, none⟩ = some (.int .i64 t393) := (blk_cell BK398.out 1).trans rfl
                        have hcz33_2 : wc.cell? ⟨gb398, 2, none⟩ = some (.int .i64 t394) := (blk_cell BK398.out 2).trans rfl
                        have hcz33_3 : wc.cell? ⟨gb398, 3, none⟩ = some (.bool t395) := (blk_cell BK398.out 3).trans rfl
                        have hcz33_4 : wc.cell? ⟨gb398, 4, none⟩ = some (.string t396) := (blk_cell BK398.out 4).trans rfl
                        have hcz33_5 : wc.cell? ⟨gb398, 5, none⟩ = some (.int .i64 t397) := (blk_cell BK398.out 5).trans rfl
                        have hfz33_0 := blk_frozen BK398.out 0
                        have hfz33_1 := blk_frozen BK398.out 1
                        have hfz33_2 := blk_frozen BK398.out 2
                        have hfz33_3 := blk_frozen BK398.out 3
                        have hfz33_4 := blk_frozen BK398.out 4
                        have hfz33_5 := blk_frozen BK398.out 5
                        have hcz34_0 : wc.cell? ⟨gb406, 0, none⟩ = some (.int .i64 t400) := (blk_cell BK406.out 0).trans rfl
                        have hcz34_1 : wc.cell? ⟨gb406, 1, none⟩ = some (.int .i64 t401) := (blk_cell BK406.out 1).trans rfl
                        have hcz34_2 : wc.cell? ⟨gb406, 2, none⟩ = some (.int .i64 t402) := (blk_cell BK406.out 2).trans rfl
                        have hcz34_3 : wc.cell? ⟨gb406, 3, none⟩ = some (.bool t403) := (blk_cell BK406.out 3).trans rfl
                        have hcz34_4 : wc.cell? ⟨gb406, 4, none⟩ = some (.string t404) := (blk_cell BK406.out 4).trans rfl
                        have hcz34_5 : wc.cell? ⟨gb406, 5, none⟩ = some (.int .i64 t405) := (blk_cell BK406.out 5).trans rfl
                        have hfz34_0 := blk_frozen BK406.out 0
                        have hfz34_1 := blk_frozen BK406.out 1
                        have hfz34_2 := blk_frozen BK406.out 2
                        have hfz34_3 := blk_frozen BK406.out 3
                        have hfz34_4 := blk_frozen BK406.out 4
                        have hfz34_5 := blk_frozen BK406.out 5
                        go_wp2_with (first | (go_at_call 51; (with_reducible refine (sess_Last.calls kj22 _ _ l0 a1 t408 _ ?side1 ?side2 A29.out).mono ?_); (case side1 => repeat (first | exact (Kd.C_below HR0.out HB.out) | (with_reducible refine Kd.C_alloc ?_ _) | (with_reducible refine Kd.C_drewN ?_ _) | (with_reducible refine Kd.C_drew ?_))); (case side2 => exact HC0.out); rintro e w35 ⟨rfl, hb⟩; have n0_ := Aside0.mk (blk_below (g := gb398) (o := .cells #[.int .i64 t392, .int .i64 t393, .int .i64 t394, .bool t395, .string t396, .int .i64 t397] 60 (0, 0)) (by (with_reducible repeat (first | refine blk_drewN ?_ _ | refine blk_drew ?_ | refine blk_alloc ?_ _)); exact BK398.out) hb); have n1_ := Aside0.mk (blk_below (g := gb406) (o := .cells #[.int .i64 t400, .int .i64 t401, .int .i64 t402, .bool t403, .string t404, .int .i64 t405] 60 (0, 0)) (by (with_reducible repeat (first | refine blk_drewN ?_ _ | refine blk_drew ?_ | refine blk_alloc ?_ _)); exact BK406.out) hb); have n2_ := Aside0.mk (below_step (by repeat (first | (with_reducible first | exact HB.out | apply below_alloc | apply pw_below_drewN | apply below_drew1 | refine below_set ?_ GE398.out | refine below_set ?_ GE406.out) | exact HB.out)) hb); clear BK398; clear BK406; clear HB; have BK398 := n0_; have BK406 := n1_; have HB := n2_; clear n0_ n1_ n2_; (try clear hb); (try clear hb2); (try clear hk); (try clear hi)) | (go_at_call 47; (with_reducible refine (changeoverlaw22_awake.calls kj22  t409 _ A31.out).mono ?_); rintro e w36 ⟨rfl, hb⟩; have n0_ := Aside0.mk (blk_below (g := gb398) (o := .cells #[.int .i64 t392, .int .i64 t393, .int .i64 t394, .bool t395, .string t396, .int .i64 t397] 60 (0, 0)) (by (with_reducible repeat (first | refine blk_drewN ?_ _ | refine blk_drew ?_ | refine blk_alloc ?_ _)); exact BK398.out) hb); have n1_ := Aside0.mk (blk_below (g := gb406) (o := .cells #[.int .i64 t400, .int .i64 t401, .int .i64 t402, .bool t403, .string t404, .int .i64 t405] 60 (0, 0)) (by (with_reducible repeat (first | refine blk_drewN ?_ _ | refine blk_drew ?_ | refine blk_alloc ?_ _)); exact BK406.out) hb); have n2_ := Aside0.mk (below_step (by repeat (first | (with_reducible first | exact HB.out | apply below_alloc | apply pw_below_drewN | apply below_drew1 | refine below_set ?_ GE398.out | refine below_set ?_ GE406.out) | exact HB.out)) hb); clear BK398; clear BK406; clear HB; have BK398 := n0_; have BK406 := n1_; have HB := n2_; clear n0_ n1_ n2_; (try clear hb); (try clear hb2); (try clear hk); (try clear hi)))
                        all_goals try (exfalso; first | exact absurd c28b0 (by simp only [Bool.and_eq_true, Bool.and_eq_false_iff, beq_iff_eq, Bool.not_eq_true', Bool.not_eq_eq_eq_not, Bool.not_true, Bool.not_eq_false]; assumption) | exact absurd c28b0 (by simp; assumption))
                        go_ret
                        exact ⟨by first | rfl | (simp [errW_none, errW_some] <;> rfl) | (simp [*, errW_none, errW_some] <;> rfl), by repeat (first | (with_reducible first | exact HB.out | apply below_alloc | apply pw_below_drewN | apply below_drew1 | refine below_set ?_ GE398.out | refine below_set ?_ GE406.out) | exact HB.out)⟩
                      · rw [if_neg c30] at H
                        have c30b0 : (t408 == t399) = false := beq_eq_false_iff_ne.mpr c30
                        have c30b1 : (t408 != t399) = true := bne_iff_ne.mpr c30
                        obtain rfl := Option.some.inj H
                        have hnb37 := NB398_406.out
                        have hnc37 := NB406_398.out
                        have hcz38_0 : wc.cell? ⟨gb398, 0, none⟩ = some (.int .i64 t392) := (blk_cell BK398.out 0).trans rfl
                        have hcz38_1 : wc.cell? ⟨gb398, 1, none⟩ = some (.int .i64 t393) := (blk_cell BK398.out 1).trans rfl
                        have hcz38_2 : wc.cell? ⟨gb398, 2, none⟩ = some (.int .i64 t394) := (blk_cell BK398.out 2).trans rfl
                        have hcz38_3 : wc.cell? ⟨gb398, 3, none⟩ = some (.bool t395) := (blk_cell BK398.out 3).trans rfl
                        have hcz38_4 : wc.cell? ⟨gb398, 4, none⟩ = some (.string t396) := (blk_cell BK398.out 4).trans rfl
                        have hcz38_5 : wc.cell? ⟨gb398, 5, none⟩ = some (.int .i64 t397) := (blk_cell BK398.out 5).trans rfl
                        have hfz38_0 := blk_frozen BK398.out 0
                        have hfz38_1 := blk_frozen BK398.out 1
                        have hfz38_2 := blk_frozen BK398.out 2
                        have hfz38_3 := blk_frozen BK398.out 3
                        have hfz38_4 := blk_frozen BK398.out 4
                        have hfz38_5 := blk_frozen BK398.out 5
                        have hcz39_0 : wc.cell? ⟨gb406, 0, none⟩ = some (.int .i64 t400) := (blk_cell BK406.out 0).trans rfl
                        have hcz39_1 : wc.cell? ⟨gb406, 1, none⟩ = some (.int .i64 t401) := (blk_cell BK406.out 1).trans rfl
                        have hcz39_2 : wc.cell? ⟨gb406, 2, none⟩ = some (.int .i64 t402) := (blk_cell BK406.out 2).trans rfl
                        have hcz39_3 : wc.cell? ⟨gb406, 3, none⟩ = some (.bool t403) := (blk_cell BK406.out 3).trans rfl
                        have hcz39_4 : wc.cell? ⟨gb406, 4, none⟩ = some (.string t404) := (blk_cell BK406.out 4).trans rfl
                        have hcz39_5 : wc.cell? ⟨gb406, 5, none⟩ = some (.int .i64 t405) := (blk_cell BK406.out 5).trans rfl
                        have hfz39_0 := blk_frozen BK406.out 0
                        have hfz39_1 := blk_frozen BK406.out 1
                        have hfz39_2 := blk_frozen BK406.out 2
                        have hfz39_3 := blk_frozen BK406.out 3
                        have hfz39_4 := blk_frozen BK406.out 4
                        have hfz39_5 := blk_frozen BK406.out 5
                        go_wp2_with (first | (go_at_call 51; (with_reducible refine (sess_Last.calls kj22 _ _ l0 a1 t408 _ ?side1 ?side2 A29.out).mono ?_); (case side1 => repeat (first | exact (Kd.C_below HR0.out HB.out) | (with_reducible refine Kd.C_alloc ?_ _) | (with_reducible refine Kd.C_drewN ?_ _) | (with_reducible refine Kd.C_drew ?_))); (case side2 => exact HC0.out); rintro e w40 ⟨rfl, hb⟩; have n0_ := Aside0.mk (blk_below (g := gb398) (o := .cells #[.int .i64 t392, .int .i64 t393, .int .i64 t394, .bool t395, .string t396, .int .i64 t397] 60 (0, 0)) (by (with_reducible repeat (first | refine blk_drewN ?_ _ | refine blk_drew ?_ | refine blk_alloc ?_ _)); exact BK398.out) hb); have n1_ := Aside0.mk (blk_below (g := gb406) (o := .cells #[.int .i64 t400, .int .i64 t401, .int .i64 t402, .bool t403, .string t404, .int .i64 t405] 60 (0, 0)) (by (with_reducible repeat (first | refine blk_drewN ?_ _ | refine blk_drew ?_ | refine blk_alloc ?_ _)); exact BK406.out) hb); have n2_ := Aside0.mk (below_step (by repeat (first | (with_reducible first | exact HB.out | apply below_alloc | apply pw_below_drewN | apply below_drew1 | refine below_set ?_ GE398.out | refine below_set ?_ GE406.out) | exact HB.out)) hb); clear BK398; clear BK406; clear HB; have BK398 := n0_; have BK406 := n1_; have HB := n2_; clear n0_ n1_ n2_; (try clear hb); (try clear hb2); (try clear hk); (try clear hi)))
                        all_goals try (exfalso; first | exact absurd c28b0 (by simp only [Bool.and_eq_true, Bool.and_eq_false_iff, beq_iff_eq, Bool.not_eq_true', Bool.not_eq_eq_eq_not, Bool.not_true, Bool.not_eq_false]; assumption) | exact absurd c28b0 (by simp; assumption))
                        go_ret
                        exact ⟨by first | rfl | (simp [errW_none, errW_some] <;> rfl) | (simp [*, errW_none, errW_some] <;> rfl), by repeat (first | (with_reducible first | exact HB.out | apply below_alloc | apply pw_below_drewN | apply below_drew1 | refine below_set ?_ GE398.out | refine below_set ?_ GE406.out) | exact HB.out)⟩
                    · rw [if_neg c28] at H
                      have c28b0 : (t392 == t400 && (t393 == t401 && (t394 == t402 && (t395 == t403 && (t396.toList == t404.toList && (t397 == t405)))))) = false := by simpa using c28
                      (try (have c28b1 : decide (t392 = t400 && (t393 == t401 && (t394 == t402 && (t395 == t403 && (t396.toList == t404.toList && (t397 == t405)))))) = false := by simpa using c28))
                      (try (have c28b2 : (t392 == t400 && (t393 == t401 && (t394 == t402 && (t395 == t403 && (t396.toList == t404.toList && (t397 == t405)))))) = false := by simpa using c28))
                      (try (have c28b3 : ¬ (t392 = t400 && (t393 == t401 && (t394 == t402 && (t395 == t403 && (t396.toList == t404.toList && (t397 == t405)))))) := by simpa using c28))
                      clear c28
                      obtain rfl := Option.some.inj H
                      have hnb41 := NB398_406.out
                      have hnc41 := NB406_398.out
                      have hcz42_0 : wc.cell? ⟨gb398, 0, none⟩ = some (.int .i64 t392) := (blk_cell BK398.out 0).trans rfl
                      have hcz42_1 : wc.cell? ⟨gb398, 1, none⟩ = some (.int .i64 t393) := (blk_cell BK398.out 1).trans rfl
                      have hcz42_2 : wc.cell? ⟨gb398, 2, none⟩ = some (.int .i64 t394) := (blk_cell BK398.out 2).trans rfl
                      have hcz42_3 : wc.cell? ⟨gb398, 3, none⟩ = some (.bool t395) := (blk_cell BK398.out 3).trans rfl
                      have hcz42_4 : wc.cell? ⟨gb398, 4, none⟩ = some (.string t396) := (blk_cell BK398.out 4).trans rfl
                      have hcz42_5 : wc.cell? ⟨gb398, 5, none⟩ = some (.int .i64 t397) := (blk_cell BK398.out 5).trans rfl
                      have hfz42_0 := blk_frozen BK398.out 0
                      have hfz42_1 := blk_frozen BK398.out 1
                      have hfz42_2 := blk_frozen BK398.out 2
                      have hfz42_3 := blk_frozen BK398.out 3
                      have hfz42_4 := blk_frozen BK398.out 4
                      have hfz42_5 := blk_frozen BK398.out 5
                      have hcz43_0 : wc.cell? ⟨gb406, 0, none⟩ = some (.int .i64 t400) := (blk_cell BK406.out 0).trans rfl
                      have hcz43_1 : wc.cell? ⟨gb406, 1, none⟩ = some (.int .i64 t401) := (blk_cell BK406.out 1).trans rfl
                      have hcz43_2 : wc.cell? ⟨gb406, 2, none⟩ = some (.int .i64 t402) := (blk_cell BK406.out 2).trans rfl
                      have hcz43_3 : wc.cell? ⟨gb406, 3, none⟩ = some (.bool t403) := (blk_cell BK406.out 3).trans rfl
                      have hcz43_4 : wc.cell? ⟨gb406, 4, none⟩ = some (.string t404) := (blk_cell BK406.out 4).trans rfl
                      have hcz43_5 : wc.cell? ⟨gb406, 5, none⟩ = some (.int .i64 t405) := (blk_cell BK406.out 5).trans rfl
                      have hfz43_0 := blk_frozen BK406.out 0
                      have hfz43_1 := blk_frozen BK406.out 1
                      have hfz43_2 := blk_frozen BK406.out 2
                      have hfz43_3 := blk_frozen BK406.out 3
                      have hfz43_4 := blk_frozen BK406.out 4
                      have hfz43_5 := blk_frozen BK406.out 5
                      go_wp2
                      all_goals try (exfalso; first | exact absurd c28b0 (by simp only [Bool.and_eq_true, Bool.and_eq_false_iff, beq_iff_eq, Bool.not_eq_true', Bool.not_eq_eq_eq_not, Bool.not_true, Bool.not_eq_false]; assumption) | exact absurd c28b0 (by simp; assumption))
                      go_ret
                      exact ⟨by first | rfl | (simp [errW_none, errW_some] <;> rfl) | (simp [*, errW_none, errW_some] <;> rfl), by repeat (first | (with_reducible first | exact HB.out | apply below_alloc | apply pw_below_drewN | apply below_drew1 | refine below_set ?_ GE398.out | refine below_set ?_ GE406.out) | exact HB.out)⟩
                  · rw [if_neg c27] at H
                    have c27b0 : (t391 == x11_22) = false := beq_eq_false_iff_ne.mpr c27
                    have c27b1 : (t391 != x11_22) = true := bne_iff_ne.mpr c27
                    obtain rfl := Option.some.inj H
                    go_wp2
                    go_ret
                    exact ⟨by first | rfl | (simp [errW_none, errW_some] <;> rfl) | (simp [*, errW_none, errW_some] <;> rfl), by repeat (first | (with_reducible first | exact HB.out | apply below_alloc | apply pw_below_drewN | apply below_drew1 | refine below_set ?_ GE398.out | refine below_set ?_ GE406.out) | exact HB.out)⟩
                · rw [if_neg c26] at H
                  have c26b0 : (x11_22 == 1) = false := beq_eq_false_iff_ne.mpr c26
                  have c26b1 : (x11_22 != 1) = true := bne_iff_ne.mpr c26
                  by_cases c44 : t391 = x11_22
                  · rw [if_pos c44] at H
                    have c44b0 : (t391 == x11_22) = true := beq_iff_eq.mpr c44
                    have c44b1 : (t391 != x11_22) = false := bne_eq_false_iff_eq.mpr c44
                    clear c44
                    by_cases c45 : (t392 == 0 && (t393 == 0 && (t394 == 0 && (!t395 && (t396.toList == ([] : List UInt8) && (t397 == 0)))))) = true
                    · rw [if_pos c45] at H
                      have c45b0 : (t392 == 0 && (t393 == 0 && (t394 == 0 && (!t395 && (t396.toList == ([] : List UInt8) && (t397 == 0)))))) = true := c45
                      (try (have c45b1 : decide (t392 = 0 && (t393 == 0 && (t394 == 0 && (!t395 && (t396.toList == ([] : List UInt8) && (t397 == 0)))))) = true := by simpa using c45))
                      (try (have c45b2 : (t392 == 0 && (t393 == 0 && (t394 == 0 && (!t395 && (t396.toList == ([] : List UInt8) && (t397 == 0)))))) = true := by simpa using c45))
                      clear c45
                      replace H := Option.bind_eq_some_iff.mp H
                      obtain ⟨t410, A460, H⟩ := H
                      replace H : (if t410 = t399 then ((changeoverlaw22_awake.f kj22).bind fun t411 => (some t411)) else (some false)) = some r := H
                      have A46 := Aside0.mk A460
                      clear A460
                      by_cases c47 : t410 = t399
                      · rw [if_pos c47] at H
                        have c47b0 : (t410 == t399) = true := beq_iff_eq.mpr c47
                        have c47b1 : (t410 != t399) = false := bne_eq_false_iff_eq.mpr c47
                        clear c47
                        replace H := Option.bind_eq_some_iff.mp H
                        obtain ⟨t411, A480, H⟩ := H
                        replace H : (some t411) = some r := H
                        have A48 := Aside0.mk A480
                        clear A480
                        obtain rfl := Option.some.inj H
                        have hnb49 := NB406_398.out
                        have hnc49 := NB398_406.out
                        have hcz50_0 : wc.cell? ⟨gb406, 0, none⟩ = some (.int .i64 t400) := (blk_cell BK406.out 0).trans rfl
                        have hcz50_1 : wc.cell? ⟨gb406, 1, none⟩ = some (.int .i64 t401) := (blk_cell BK406.out 1).trans rfl
                        have hcz50_2 : wc.cell? ⟨gb406, 2, none⟩ = some (.int .i64 t402) := (blk_cell BK406.out 2).trans rfl
                        have hcz50_3 : wc.cell? ⟨gb406, 3, none⟩ = some (.bool t403) := (blk_cell BK406.out 3).trans rfl
                        have hcz50_4 : wc.cell? ⟨gb406, 4, none⟩ = some (.string t404) := (blk_cell BK406.out 4).trans rfl
                        have hcz50_5 : wc.cell? ⟨gb406, 5, none⟩ = some (.int .i64 t405) := (blk_cell BK406.out 5).trans rfl
                        have hfz50_0 := blk_frozen BK406.out 0
                        have hfz50_1 := blk_frozen BK406.out 1
                        have hfz50_2 := blk_frozen BK406.out 2
                        have hfz50_3 := blk_frozen BK406.out 3
                        have hfz50_4 := blk_frozen BK406.out 4
                        have hfz50_5 := blk_frozen BK406.out 5
                        have hcz51_0 : wc.cell? ⟨gb398, 0, none⟩ = some (.int .i64 t392) := (blk_cell BK398.out 0).trans rfl
                        have hcz51_1 : wc.cell? ⟨gb398, 1, none⟩ = some (.int .i64 t393) := (blk_cell BK398.out 1).trans rfl
                        have hcz51_2 : wc.cell? ⟨gb398, 2, none⟩ = some (.int .i64 t394) := (blk_cell BK398.out 2).trans rfl
                        have hcz51_3 : wc.cell? ⟨gb398, 3, none⟩ = some (.bool t395) := (blk_cell BK398.out 3).trans rfl
                        have hcz51_4 : wc.cell? ⟨gb398, 4, none⟩ = some (.string t396) := (blk_cell BK398.out 4).trans rfl
                        have hcz51_5 : wc.cell? ⟨gb398, 5, none⟩ = some (.int .i64 t397) := (blk_cell BK398.out 5).trans rfl
                        have hfz51_0 := blk_frozen BK398.out 0
                        have hfz51_1 := blk_frozen BK398.out 1
                        have hfz51_2 := blk_frozen BK398.out 2
                        have hfz51_3 := blk_frozen BK398.out 3
                        have hfz51_4 := blk_frozen BK398.out 4
                        have hfz51_5 := blk_frozen BK398.out 5
                        go_wp2_with (first | (go_at_call 51; (with_reducible refine (sess_Last.calls kj22 _ _ l0 a1 t410 _ ?side1 ?side2 A46.out).mono ?_); (case side1 => exact Kd.C_below HR0.out (by repeat (first | (with_reducible first | exact HB.out | apply below_alloc | apply pw_below_drewN | apply below_drew1 | refine below_set ?_ GE398.out | refine below_set ?_ GE406.out) | exact HB.out))); (case side2 => exact HC0.out); rintro e w52 ⟨rfl, hb⟩; have n0_ := Aside0.mk (blk_below (g := gb398) (o := .cells #[.int .i64 t392, .int .i64 t393, .int .i64 t394, .bool t395, .string t396, .int .i64 t397] 60 (0, 0)) (by (with_reducible repeat (first | refine blk_drewN ?_ _ | refine blk_drew ?_ | refine blk_alloc ?_ _)); refine blk_far ?_ NB398_406.out _; (with_reducible repeat (first | refine blk_drewN ?_ _ | refine blk_drew ?_ | refine blk_alloc ?_ _)); refine blk_far ?_ NB398_406.out _; (with_reducible repeat (first | refine blk_drewN ?_ _ | refine blk_drew ?_ | refine blk_alloc ?_ _)); refine blk_far ?_ NB398_406.out _; (with_reducible repeat (first | refine blk_drewN ?_ _ | refine blk_drew ?_ | refine blk_alloc ?_ _)); refine blk_far ?_ NB398_406.out _; (with_reducible repeat (first | refine blk_drewN ?_ _ | refine blk_drew ?_ | refine blk_alloc ?_ _)); refine blk_far ?_ NB398_406.out _; (with_reducible repeat (first | refine blk_drewN ?_ _ | refine blk_drew ?_ | refine blk_alloc ?_ _)); refine blk_far ?_ NB398_406.out _; (with_reducible repeat (first | refine blk_drewN ?_ _ | refine blk_drew ?_ | refine blk_alloc ?_ _)); exact BK398.out) hb); have n1_ := Aside0.mk (blk_below (g := gb406) (o := .cells #[.int .i64 0, .int .i64 0, .int .i64 0, .bool false, .string (⟨#[]⟩ : ByteArray), .int .i64 0] 60 (0, 0)) (by (with_reducible repeat (first | refine blk_drewN ?_ _ | refine blk_drew ?_ | refine blk_alloc ?_ _)); refine blk_put (cs := #[.int .i64 0, .int .i64 0, .int .i64 0, .bool false, .string (⟨#[]⟩ : ByteArray), .int .i64 t405]) ?_ 5 _ rfl; (with_reducible repeat (first | refine blk_drewN ?_ _ | refine blk_drew ?_ | refine blk_alloc ?_ _)); refine blk_put (cs := #[.int .i64 0, .int .i64 0, .int .i64 0, .bool false, .string t404, .int .i64 t405]) ?_ 4 _ rfl; (with_reducible repeat (first | refine blk_drewN ?_ _ | refine blk_drew ?_ | refine blk_alloc ?_ _)); refine blk_put (cs := #[.int .i64 0, .int .i64 0, .int .i64 0, .bool t403, .string t404, .int .i64 t405]) ?_ 3 _ rfl; (with_reducible repeat (first | refine blk_drewN ?_ _ | refine blk_drew ?_ | refine blk_alloc ?_ _)); refine blk_put (cs := #[.int .i64 0, .int .i64 0, .int .i64 t402, .bool t403, .string t404, .int .i64 t405]) ?_ 2 _ rfl; (with_reducible repeat (first | refine blk_drewN ?_ _ | refine blk_drew ?_ | refine blk_alloc ?_ _)); refine blk_put (cs := #[.int .i64 0, .int .i64 t401, .int .i64 t402, .bool t403, .string t404, .int .i64 t405]) ?_ 1 _ rfl; (with_reducible repeat (first | refine blk_drewN ?_ _ | refine blk_drew ?_ | refine blk_alloc ?_ _)); refine blk_put (cs := #[.int .i64 t400, .int .i64 t401, .int .i64 t402, .bool t403, .string t404, .int .i64 t405]) ?_ 0 _ rfl; (with_reducible repeat (first | refine blk_drewN ?_ _ | refine blk_drew ?_ | refine blk_alloc ?_ _)); exact BK406.out) hb); have n2_ := Aside0.mk (below_step (by repeat (first | (with_reducible first | exact HB.out | apply below_alloc | apply pw_below_drewN | apply below_drew1 | refine below_set ?_ GE398.out | refine below_set ?_ GE406.out) | exact HB.out)) hb); clear BK398; clear BK406; clear HB; have BK398 := n0_; have BK406 := n1_; have HB := n2_; clear n0_ n1_ n2_; (try clear hb); (try clear hb2); (try clear hk); (try clear hi)) | (go_at_call 47; (with_reducible refine (changeoverlaw22_awake.calls kj22  t411 _ A48.out).mono ?_); rintro e w53 ⟨rfl, hb⟩; have n0_ := Aside0.mk (blk_below (g := gb398) (o := .cells #[.int .i64 t392, .int .i64 t393, .int .i64 t394, .bool t395, .string t396, .int .i64 t397] 60 (0, 0)) (by (with_reducible repeat (first | refine blk_drewN ?_ _ | refine blk_drew ?_ | refine blk_alloc ?_ _)); exact BK398.out) hb); have n1_ := Aside0.mk (blk_below (g := gb406) (o := .cells #[.int .i64 0, .int .i64 0, .int .i64 0, .bool false, .string (⟨#[]⟩ : ByteArray), .int .i64 0] 60 (0, 0)) (by (with_reducible repeat (first | refine blk_drewN ?_ _ | refine blk_drew ?_ | refine blk_alloc ?_ _)); exact BK406.out) hb); have n2_ := Aside0.mk (below_step (by repeat (first | (with_reducible first | exact HB.out | apply below_alloc | apply pw_below_drewN | apply below_drew1 | refine below_set ?_ GE398.out | refine below_set ?_ GE406.out) | exact HB.out)) hb); clear BK398; clear BK406; clear HB; have BK398 := n0_; have BK406 := n1_; have HB := n2_; clear n0_ n1_ n2_; (try clear hb); (try clear hb2); (try clear hk); (try clear hi)))
                        all_goals try (exfalso; first | exact absurd c45b0 (by simp only [Bool.and_eq_true, Bool.and_eq_false_iff, beq_iff_eq, Bool.not_eq_true', Bool.not_eq_eq_eq_not, Bool.not_true, Bool.not_eq_false]; assumption) | exact absurd c45b0 (by simp; assumption))
                        go_ret
                        exact ⟨by first | rfl | (simp [errW_none, errW_some] <;> rfl) | (simp [*, errW_none, errW_some] <;> rfl), by repeat (first | (with_reducible first | exact HB.out | apply below_alloc | apply pw_below_drewN | apply below_drew1 | refine below_set ?_ GE398.out | refine below_set ?_ GE406.out) | exact HB.out)⟩
                      · rw [if_neg c47] at H
                        have c47b0 : (t410 == t399) = false := beq_eq_false_iff_ne.mpr c47
                        have c47b1 : (t410 != t399) = true := bne_iff_ne.mpr c47
                        obtain rfl := Option.some.inj H
                        have hnb54 := NB406_398.out
                        have hnc54 := NB398_406.out
                        have hcz55_0 : wc.cell? ⟨gb406, 0, none⟩ = some (.int .i64 t400) := (blk_cell BK406.out 0).trans rfl
                        have hcz55_1 : wc.cell? ⟨gb406, 1, none⟩ = some (.int .i64 t401) := (blk_cell BK406.out 1).trans rfl
                        have hcz55_2 : wc.cell? ⟨gb406, 2, none⟩ = some (.int .i64 t402) := (blk_cell BK406.out 2).trans rfl
                        have hcz55_3 : wc.cell? ⟨gb406, 3, none⟩ = some (.bool t403) := (blk_cell BK406.out 3).trans rfl
                        have hcz55_4 : wc.cell? ⟨gb406, 4, none⟩ = some (.string t404) := (blk_cell BK406.out 4).trans rfl
                        have hcz55_5 : wc.cell? ⟨gb406, 5, none⟩ = some (.int .i64 t405) := (blk_cell BK406.out 5).trans rfl
                        have hfz55_0 := blk_frozen BK406.out 0
                        have hfz55_1 := blk_frozen BK406.out 1
                        have hfz55_2 := blk_frozen BK406.out 2
                        have hfz55_3 := blk_frozen BK406.out 3
                        have hfz55_4 := blk_frozen BK406.out 4
                        have hfz55_5 := blk_frozen BK406.out 5
                        have hcz56_0 : wc.cell? ⟨gb398, 0, none⟩ = some (.int .i64 t392) := (blk_cell BK398.out 0).trans rfl
                        have hcz56_1 : wc.cell? ⟨gb398, 1, none⟩ = some (.int .i64 t393) := (blk_cell BK398.out 1).trans rfl
                        have hcz56_2 : wc.cell? ⟨gb398, 2, none⟩ = some (.int .i64 t394) := (blk_cell BK398.out 2).trans rfl
                        have hcz56_3 : wc.cell? ⟨gb398, 3, none⟩ = some (.bool t395) := (blk_cell BK398.out 3).trans rfl
                        have hcz56_4 : wc.cell? ⟨gb398, 4, none⟩ = some (.string t396) := (blk_cell BK398.out 4).trans rfl
                        have hcz56_5 : wc.cell? ⟨gb398, 5, none⟩ = some (.int .i64 t397) := (blk_cell BK398.out 5).trans rfl
                        have hfz56_0 := blk_frozen BK398.out 0
                        have hfz56_1 := blk_frozen BK398.out 1
                        have hfz56_2 := blk_frozen BK398.out 2
                        have hfz56_3 := blk_frozen BK398.out 3
                        have hfz56_4 := blk_frozen BK398.out 4
                        have hfz56_5 := blk_frozen BK398.out 5
                        go_wp2_with (first | (go_at_call 51; (with_reducible refine (sess_Last.calls kj22 _ _ l0 a1 t410 _ ?side1 ?side2 A46.out).mono ?_); (case side1 => exact Kd.C_below HR0.out (by repeat (first | (with_reducible first | exact HB.out | apply below_alloc | apply pw_below_drewN | apply below_drew1 | refine below_set ?_ GE398.out | refine below_set ?_ GE406.out) | exact HB.out))); (case side2 => exact HC0.out); rintro e w57 ⟨rfl, hb⟩; have n0_ := Aside0.mk (blk_below (g := gb398) (o := .cells #[.int .i64 t392, .int .i64 t393, .int .i64 t394, .bool t395, .string t396, .int .i64 t397] 60 (0, 0)) (by (with_reducible repeat (first | refine blk_drewN ?_ _ | refine blk_drew ?_ | refine blk_alloc ?_ _)); refine blk_far ?_ NB398_406.out _; (with_reducible repeat (first | refine blk_drewN ?_ _ | refine blk_drew ?_ | refine blk_alloc ?_ _)); refine blk_far ?_ NB398_406.out _; (with_reducible repeat (first | refine blk_drewN ?_ _ | refine blk_drew ?_ | refine blk_alloc ?_ _)); refine blk_far ?_ NB398_406.out _; (with_reducible repeat (first | refine blk_drewN ?_ _ | refine blk_drew ?_ | refine blk_alloc ?_ _)); refine blk_far ?_ NB398_406.out _; (with_reducible repeat (first | refine blk_drewN ?_ _ | refine blk_drew ?_ | refine blk_alloc ?_ _)); refine blk_far ?_ NB398_406.out _; (with_reducible repeat (first | refine blk_drewN ?_ _ | refine blk_drew ?_ | refine blk_alloc ?_ _)); refine blk_far ?_ NB398_406.out _; (with_reducible repeat (first | refine blk_drewN ?_ _ | refine blk_drew ?_ | refine blk_alloc ?_ _)); exact BK398.out) hb); have n1_ := Aside0.mk (blk_below (g := gb406) (o := .cells #[.int .i64 0, .int .i64 0, .int .i64 0, .bool false, .string (⟨#[]⟩ : ByteArray), .int .i64 0] 60 (0, 0)) (by (with_reducible repeat (first | refine blk_drewN ?_ _ | refine blk_drew ?_ | refine blk_alloc ?_ _)); refine blk_put (cs := #[.int .i64 0, .int .i64 0, .int .i64 0, .bool false, .string (⟨#[]⟩ : ByteArray), .int .i64 t405]) ?_ 5 _ rfl; (with_reducible repeat (first | refine blk_drewN ?_ _ | refine blk_drew ?_ | refine blk_alloc ?_ _)); refine blk_put (cs := #[.int .i64 0, .int .i64 0, .int .i64 0, .bool false, .string t404, .int .i64 t405]) ?_ 4 _ rfl; (with_reducible repeat (first | refine blk_drewN ?_ _ | refine blk_drew ?_ | refine blk_alloc ?_ _)); refine blk_put (cs := #[.int .i64 0, .int .i64 0, .int .i64 0, .bool t403, .string t404, .int .i64 t405]) ?_ 3 _ rfl; (with_reducible repeat (first | refine blk_drewN ?_ _ | refine blk_drew ?_ | refine blk_alloc ?_ _)); refine blk_put (cs := #[.int .i64 0, .int .i64 0, .int .i64 t402, .bool t403, .string t404, .int .i64 t405]) ?_ 2 _ rfl; (with_reducible repeat (first | refine blk_drewN ?_ _ | refine blk_drew ?_ | refine blk_alloc ?_ _)); refine blk_put (cs := #[.int .i64 0, .int .i64 t401, .int .i64 t402, .bool t403, .string t404, .int .i64 t405]) ?_ 1 _ rfl; (with_reducible repeat (first | refine blk_drewN ?_ _ | refine blk_drew ?_ | refine blk_alloc ?_ _)); refine blk_put (cs := #[.int .i64 t400, .int .i64 t401, .int .i64 t402, .bool t403, .string t404, .int .i64 t405]) ?_ 0 _ rfl; (with_reducible repeat (first | refine blk_drewN ?_ _ | refine blk_drew ?_ | refine blk_alloc ?_ _)); exact BK406.out) hb); have n2_ := Aside0.mk (below_step (by repeat (first | (with_reducible first | exact HB.out | apply below_alloc | apply pw_below_drewN | apply below_drew1 | refine below_set ?_ GE398.out | refine below_set ?_ GE406.out) | exact HB.out)) hb); clear BK398; clear BK406; clear HB; have BK398 := n0_; have BK406 := n1_; have HB := n2_; clear n0_ n1_ n2_; (try clear hb); (try clear hb2); (try clear hk); (try clear hi)))
                        all_goals try (exfalso; first | exact absurd c45b0 (by simp only [Bool.and_eq_true, Bool.and_eq_false_iff, beq_iff_eq, Bool.not_eq_true', Bool.not_eq_eq_eq_not, Bool.not_true, Bool.not_eq_false]; assumption) | exact absurd c45b0 (by simp; assumption))
                        go_ret
                        exact ⟨by first | rfl | (simp [errW_none, errW_some] <;> rfl) | (simp [*, errW_none, errW_some] <;> rfl), by repeat (first | (with_reducible first | exact HB.out | apply below_alloc | apply pw_below_drewN | apply below_drew1 | refine below_set ?_ GE398.out | refine below_set ?_ GE406.out) | exact HB.out)⟩
                    · rw [if_neg c45] at H
                      have c45b0 : (t392 == 0 && (t393 == 0 && (t394 == 0 && (!t395 && (t396.toList == ([] : List UInt8) && (t397 == 0)))))) = false := by simpa using c45
                      (try (have c45b1 : decide (t392 = 0 && (t393 == 0 && (t394 == 0 && (!t395 && (t396.toList == ([] : List UInt8) && (t397 == 0)))))) = false := by simpa using c45))
                      (try (have c45b2 : (t392 == 0 && (t393 == 0 && (t394 == 0 && (!t395 && (t396.toList == ([] : List UInt8) && (t397 == 0)))))) = false := by simpa using c45))
                      (try (have c45b3 : ¬ (t392 = 0 && (t393 == 0 && (t394 == 0 && (!t395 && (t396.toList == ([] : List UInt8) && (t397 == 0)))))) := by simpa using c45))
                      clear c45
                      obtain rfl := Option.some.inj H
                      have hnb58 := NB406_398.out
                      have hnc58 := NB398_406.out
                      have hcz59_0 : wc.cell? ⟨gb406, 0, none⟩ = some (.int .i64 t400) := (blk_cell BK406.out 0).trans rfl
                      have hcz59_1 : wc.cell? ⟨gb406, 1, none⟩ = some (.int .i64 t401) := (blk_cell BK406.out 1).trans rfl
                      have hcz59_2 : wc.cell? ⟨gb406, 2, none⟩ = some (.int .i64 t402) := (blk_cell BK406.out 2).trans rfl
                      have hcz59_3 : wc.cell? ⟨gb406, 3, none⟩ = some (.bool t403) := (blk_cell BK406.out 3).trans rfl
                      have hcz59_4 : wc.cell? ⟨gb406, 4, none⟩ = some (.string t404) := (blk_cell BK406.out 4).trans rfl
                      have hcz59_5 : wc.cell? ⟨gb406, 5, none⟩ = some (.int .i64 t405) := (blk_cell BK406.out 5).trans rfl
                      have hfz59_0 := blk_frozen BK406.out 0
                      have hfz59_1 := blk_frozen BK406.out 1
                      have hfz59_2 := blk_frozen BK406.out 2
                      have hfz59_3 := blk_frozen BK406.out 3
                      have hfz59_4 := blk_frozen BK406.out 4
                      have hfz59_5 := blk_frozen BK406.out 5
                      have hcz60_0 : wc.cell? ⟨gb398, 0, none⟩ = some (.int .i64 t392) := (blk_cell BK398.out 0).trans rfl
                      have hcz60_1 : wc.cell? ⟨gb398, 1, none⟩ = some (.int .i64 t393) := (blk_cell BK398.out 1).trans rfl
                      have hcz60_2 : wc.cell? ⟨gb398, 2, none⟩ = some (.int .i64 t394) := (blk_cell BK398.out 2).trans rfl
                      have hcz60_3 : wc.cell? ⟨gb398, 3, none⟩ = some (.bool t395) := (blk_cell BK398.out 3).trans rfl
                      have hcz60_4 : wc.cell? ⟨gb398, 4, none⟩ = some (.string t396) := (blk_cell BK398.out 4).trans rfl
                      have hcz60_5 : wc.cell? ⟨gb398, 5, none⟩ = some (.int .i64 t397) := (blk_cell BK398.out 5).trans rfl
                      have hfz60_0 := blk_frozen BK398.out 0
                      have hfz60_1 := blk_frozen BK398.out 1
                      have hfz60_2 := blk_frozen BK398.out 2
                      have hfz60_3 := blk_frozen BK398.out 3
                      have hfz60_4 := blk_frozen BK398.out 4
                      have hfz60_5 := blk_frozen BK398.out 5
                      go_wp2
                      all_goals try (exfalso; first | exact absurd c45b0 (by simp only [Bool.and_eq_true, Bool.and_eq_false_iff, beq_iff_eq, Bool.not_eq_true', Bool.not_eq_eq_eq_not, Bool.not_true, Bool.not_eq_false]; assumption) | exact absurd c45b0 (by simp; assumption))
                      go_ret
                      exact ⟨by first | rfl | (simp [errW_none, errW_some] <;> rfl) | (simp [*, errW_none, errW_some] <;> rfl), by repeat (first | (with_reducible first | exact HB.out | apply below_alloc | apply pw_below_drewN | apply below_drew1 | refine below_set ?_ GE398.out | refine below_set ?_ GE406.out) | exact HB.out)⟩
                  · rw [if_neg c44] at H
                    have c44b0 : (t391 == x11_22) = false := beq_eq_false_iff_ne.mpr c44
                    have c44b1 : (t391 != x11_22) = true := bne_iff_ne.mpr c44
                    obtain rfl := Option.some.inj H
                    have hnb61 := NB406_398.out
                    have hnc61 := NB398_406.out
                    have hcz62_0 : wc.cell? ⟨gb406, 0, none⟩ = some (.int .i64 t400) := (blk_cell BK406.out 0).trans rfl
                    have hcz62_1 : wc.cell? ⟨gb406, 1, none⟩ = some (.int .i64 t401) := (blk_cell BK406.out 1).trans rfl
                    have hcz62_2 : wc.cell? ⟨gb406, 2, none⟩ = some (.int .i64 t402) := (blk_cell BK406.out 2).trans rfl
                    have hcz62_3 : wc.cell? ⟨gb406, 3, none⟩ = some (.bool t403) := (blk_cell BK406.out 3).trans rfl
                    have hcz62_4 : wc.cell? ⟨gb406, 4, none⟩ = some (.string t404) := (blk_cell BK406.out 4).trans rfl
                    have hcz62_5 : wc.cell? ⟨gb406, 5, none⟩ = some (.int .i64 t405) := (blk_cell BK406.out 5).trans rfl
                    have hfz62_0 := blk_frozen BK406.out 0
                    have hfz62_1 := blk_frozen BK406.out 1
                    have hfz62_2 := blk_frozen BK406.out 2
                    have hfz62_3 := blk_frozen BK406.out 3
                    have hfz62_4 := blk_frozen BK406.out 4
                    have hfz62_5 := blk_frozen BK406.out 5
                    go_wp2
                    go_ret
                    exact ⟨by first | rfl | (simp [errW_none, errW_some] <;> rfl) | (simp [*, errW_none, errW_some] <;> rfl), by repeat (first | (with_reducible first | exact HB.out | apply below_alloc | apply pw_below_drewN | apply below_drew1 | refine below_set ?_ GE398.out | refine below_set ?_ GE406.out) | exact HB.out)⟩

end Go.Proofs.Ytalpmbeddldfoaa.PA
