-- A text that a program wrote for this claim (print.py over stand-in bodies, tool/pr.sh).
import Derived.Test.YtalpmbeddldfoaaF0
import Derived.Test.YtalpmbeddldfoaaFChangeoverlaw04Large
import Derived.Test.YtalpmbeddldfoaaFChangeoverlaw04Awake
import Derived.Test.YtalpmbeddldfoaaFChangeoverlaw04Put
import Derived.Test.YtalpmbeddldfoaaPBack
import Derived.Test.YtalpmbeddldfoaaPPack
import Derived.Test.YtalpmbeddldfoaaFChangeoverlaw04Awake
import Derived.Test.YtalpmbeddldfoaaFChangeoverlaw04Put
import Derived.Test.YtalpmbeddldfoaaFPackNewReader
namespace Go.Proofs.Ytalpmbeddldfoaa.PA
open Go.RowKit Go.Proofs.Ytalpmbeddldfoaa.Hand Go.Proofs.YtalpmbeddldfoaaW.PrintWords Go.Proofs.YtalpmbeddldfoaaW.PrintLast Go.Proofs.YtalpmbeddldfoaaW.PrintMore
attribute [local go_sem] max2_int min2_int max_two min_two max_three min_three max_four min_four   -- for this text's walks alone
attribute [local go_sem high] str_leq str_gtr str_geq
set_option linter.unusedVariables false
set_option linter.unusedSimpArgs false

/-! ### changeoverlaw04_PackBack: function 5 -/
def changeoverlaw04_PackBack.f (k : Nat) (l0 : List (S40)) : Option (Bool) := (changeoverlaw04_large.f k l0).bind fun t849 => (if t849 = true then ((changeoverlaw04_awake.f).bind fun t850 => (some t850)) else ((changeoverlaw04_put.f k l0).bind fun t851 => ((changeoverlaw04_awake.f).bind fun t854 => (some t854))))
theorem changeoverlaw04_PackBack.mono : ∀ a0 k, LeO (changeoverlaw04_PackBack.f k a0) (changeoverlaw04_PackBack.f (k + 1) a0) := by
  intro a0 k
  unfold changeoverlaw04_PackBack.f
  repeat' first
      | (with_reducible exact changeoverlaw04_large.mono _ _)
      | (with_reducible exact changeoverlaw04_put.mono _ _)
      | (with_reducible exact LeO.refl _)
      | (with_reducible exact LeO.none _)
      | (with_reducible refine LeO.ite ?_ ?_)
      | (with_reducible refine LeO.bind ?_ (fun _ => ?_))
      | exact changeoverlaw04_large.mono _ _
      | exact changeoverlaw04_put.mono _ _
      | exact LeO.none _
      | refine LeO.ite ?_ ?_
      | refine LeO.bind ?_ (fun _ => ?_)
theorem few_of (k : Nat) (l : List S40) (t : List Int) (hm : l.length ≤ 9223372036854775807) (hL : changeoverlaw04_large.f k l = some false) (hP : changeoverlaw04_put.f k l = some t) : Few l ∧ t = l.flatMap fb := by
  obtain ⟨b, hb, hs⟩ := large4_loop l hm 61 0 (by omega) (by omega) (fun j hj => by omega)
  have e : b = false := by
    have h1 := Ev.of (fun k => changeoverlaw04_large.mono l k) hL
    exact Ev_uniq hb h1
  obtain ⟨h1, h2⟩ := hs e
  obtain ⟨⟨k', _, hf⟩, hall⟩ := put_guard l hm k 0 t hP
  have hfew : Few l := ⟨h1, h2, fun i hi => hall i (Nat.zero_le _) hi⟩
  refine ⟨hfew, ?_⟩
  exact Ev_uniq (Ev.of (fun k => changeoverref04_Bytes.mono l k) hf) (fbs_ev l hfew)
theorem fb_byt (x : S40) : Byt (fb x) := by
  have hv : ∀ n, Byt (vb n) := by
    intro n
    induction n using Nat.strongRecOn with
    | _ n ih =>
      intro y hy
      by_cases c : n < 128
      · rw [vb_small c] at hy
        simp at hy
        omega
      · rw [vb_great c] at hy
        rcases List.mem_cons.1 hy with rfl | hy
        · omega
        · exact ih (n / 128) (by omega) y hy
  have hs : ∀ s : ByteArray, Byt (bytesOf s) := by
    intro s y hy
    unfold bytesOf at hy
    obtain ⟨u, _, rfl⟩ := List.mem_map.1 hy
    have := u.toNat_lt
    omega
  unfold fb
  split
  · exact hv _
  split
  · intro y hy
    unfold tb at hy
    rcases List.mem_append.1 hy with h | h
    · exact hv _ y h
    · exact hs _ y h
  split
  · intro y hy
    simp at hy
    split at hy <;> omega
  · intro y hy
    simp at hy
theorem fbs_byt (l : List S40) : Byt (l.flatMap fb) := by
  intro y hy
  obtain ⟨x, _, hx⟩ := List.mem_flatMap.1 hy
  exact fb_byt x y hx
set_option maxHeartbeats 8000000 in
set_option maxRecDepth 100000 in
theorem changeoverlaw04_PackBack.calls (k : Nat) (A0 : Option Addr) (c0 : Nat) (l0 : List (S40)) (r : Bool) (w : World) (hr0 : Kd.C k40 w A0 l0.length l0) (hc0 : l0.length ≤ c0) (h : changeoverlaw04_PackBack.f k l0 = some r) :
    Calls Try.prog 5 #[.slice A0 l0.length c0] w fun e w' => e = .returned (.bool r) ∧ Below w.heap.size w w' := by
  have hm := Kd.C_max hr0
  rw [changeoverlaw04_PackBack.f] at h
  obtain ⟨b, hL, h⟩ := Option.bind_eq_some_iff.mp h
  have HB := Aside0.mk (Below.refl w.heap.size w)
  have HR0 := Aside0.mk hr0
  have HC0 := Aside0.mk hc0
  have HLa := Aside0.mk hL
  cases b with
  | true =>
    obtain rfl : true = r := by simpa [changeoverlaw04_awake.f] using h
    clear h hr0 hc0 hm hL
    go_enter Try.func5, Try.ntmps5
    go_wp2_with (first | (go_at_call 25; ((with_reducible refine (changeoverlaw04_large.calls k _ _ l0 true _ HR0.out HC0.out HLa.out).mono ?_)); rintro e w2 ⟨rfl, ⟨n1, rfl⟩⟩; have HB2 := Aside0.mk (pw_below_drewN HB.out n1); have HRd := Aside0.mk (Kd.C_below HR0.out (pw_below_drewN (Below.refl _ _) n1)); clear HB HR0; have HB := HB2; have HR0 := HRd; clear HB2 HRd) | (go_at_call 26; ((with_reducible refine (changeoverlaw04_awake.calls true _ rfl).mono ?_)); rintro e we ⟨rfl, hb⟩; have HB2 := Aside0.mk (below_step HB.out hb); clear hb HB; have HB := HB2; clear HB2))
    go_ret
    exact ⟨rfl, HB.out⟩
  | false =>
    rw [if_neg (by decide)] at h
    obtain ⟨t, hP, h⟩ := Option.bind_eq_some_iff.mp h
    obtain rfl : true = r := by simpa [changeoverlaw04_awake.f] using h
    obtain ⟨hfew, ht⟩ := few_of k l0 t hm hL hP
    have hbt : Byt t := by rw [ht]; exact fbs_byt l0
    have htl : t.length ≤ 12600 := by rw [ht]; exact fbs_len l0 hfew
    have HP := Aside0.mk hP
    have HF := Aside0.mk hfew
    have HT := Aside0.mk ht
    have HBT := Aside0.mk hbt
    have HTL := Aside0.mk htl
    have HNR := Aside0.mk (show pack_NewReader.f t = some (t, 0, 0) by rw [pack_NewReader.f, if_neg (by omega)])
    clear h hr0 hc0 hm hL hP hfew ht hbt htl
    go_enter Try.func5, Try.ntmps5
    go_wp2_with (first | (go_at_call 25; ((with_reducible refine (changeoverlaw04_large.calls k _ _ l0 false _ HR0.out HC0.out HLa.out).mono ?_)); rintro e w2 ⟨rfl, ⟨n1, rfl⟩⟩; have HB2 := Aside0.mk (pw_below_drewN HB.out n1); have HRd := Aside0.mk (Kd.C_below HR0.out (pw_below_drewN (Below.refl _ _) n1)); clear HB HR0; have HB := HB2; have HR0 := HRd; clear HB2 HRd) | (go_at_call 28; ((with_reducible refine (changeoverlaw04_put.calls k _ _ l0 t _ HR0.out HC0.out HP.out).mono ?_)); rintro e w3 ⟨v0, rfl, hv, hb⟩; obtain ⟨A5, c5, rfl⟩ := Kd.R_slice hv; have HV := Aside0.mk (Kd.R_reads' hv).2; have HB2 := Aside0.mk (below_step HB.out hb); have HRd := Aside0.mk (Kd.C_below HR0.out hb); clear hb hv HB HR0; have HB := HB2; have HR0 := HRd; clear HB2 HRd) | (go_at_call 30; ((with_reducible refine (pack_NewReader.calls _ _ t t 0 0 _ HV.out.2 HV.out.1 HNR.out).mono ?_)); rintro e w4 ⟨g, w1, rfl, hi, hb, hb2⟩; have HI := Aside0.mk hi; have HBQ := Aside0.mk (below_step HB.out hb2); have HB1 := Aside0.mk hb; have HRd := Aside0.mk (Kd.C_below HR0.out hb2); clear hi hb hb2 HB HR0; have HB := HB1; have HR0 := HRd; clear HB1 HRd))
    clear HLa HP HNR HV
    go_loopg [4] (l0.length + 1) (fun kq v4 w' => ∃ (i : Int) (a : Nat), v4 = .int .i64 i ∧ Aside0 (0 ≤ i ∧ (l0.length : Int) < i + kq ∧ a ≤ t.length ∧ t.drop a = (l0.drop i.toNat).flatMap fb) ∧ Aside0 (IsS102 w1 w' g t (a : Int) 0) ∧ Aside0 (Below w1.heap.size w1 w'))
    case atStart => exact ⟨0, 0, rfl, ⟨by omega, by omega, by omega, by simpa using HT.out⟩, HI, HB⟩
    case round =>
      clear HI HB
      obtain ⟨i, a, rfl, HX, HI, HB⟩ := hrel
      have h60 := HF.out.len
      by_cases ci : i < (l0.length : Int)
      · obtain ⟨k1, rfl⟩ : ∃ k1, gk = k1 + 1 := ⟨gk - 1, by have := HX.out.2.1; omega⟩
        obtain ⟨hi0, hik, hal, hd⟩ := HX.out
        have hit : i.toNat < l0.length := by omega
        have hdc : l0.drop i.toNat = rd_T40 l0 i :: l0.drop (i + 1).toNat := by
          rw [show (i + 1).toNat = i.toNat + 1 by omega, List.drop_eq_getElem_cons hit]
          congr 1
          show _ = l0.getD i.toNat _
          rw [List.getD_eq_getElem?_getD, List.getElem?_eq_getElem hit]
          rfl
        rw [hdc, List.flatMap_cons] at hd
        have hs2 : (rd_T40 l0 i).f2.size ≤ 200 := HF.out.size i.toNat hit
        have hn2 : (rd_T40 l0 i).f1 ≤ 9223372036854775807 := HF.out.num i.toNat hit
        obtain ⟨ad, e, hx0, hx1, hx2, hx3⟩ := at_T40 HR0.out i hi0 ci
        cases e
        have HQ : Aside0 (∀ W, Below w1.heap.size w1 W → Below w1.heap.size w1 W ∧ W.cell? (ad.add (i.toNat * 4)) = some (.int .i64 (rd_T40 l0 i).f0) ∧ W.cell? ⟨(ad.add (i.toNat * 4)).block, (ad.add (i.toNat * 4)).off + 1, none⟩ = some (.int .i64 (rd_T40 l0 i).f1) ∧ W.cell? ⟨(ad.add (i.toNat * 4)).block, (ad.add (i.toNat * 4)).off + 2, none⟩ = some (.string (rd_T40 l0 i).f2) ∧ W.cell? ⟨(ad.add (i.toNat * 4)).block, (ad.add (i.toNat * 4)).off + 3, none⟩ = some (.bool (rd_T40 l0 i).f3)) := ⟨fun W hb => ⟨hb, (hb.cell (World.block_lt_of_cell? w1 _ hx0)).trans hx0, (hb.cell (World.block_lt_of_cell? w1 _ hx1)).trans hx1, (hb.cell (World.block_lt_of_cell? w1 _ hx2)).trans hx2, (hb.cell (World.block_lt_of_cell? w1 _ hx3)).trans hx3⟩⟩
        generalize hkd : (rd_T40 l0 i).f0 = kd at hx0 HQ
        generalize hN : (rd_T40 l0 i).f1 = N at hx1 HQ hn2
        generalize hS : (rd_T40 l0 i).f2 = S at hx2 HQ hs2
        generalize hBq : (rd_T40 l0 i).f3 = Bq at hx3 HQ
        have hfb : fb (rd_T40 l0 i) = if kd = 1 then vb N.toNat else if kd = 2 then tb S else if kd = 3 then [if Bq then 1 else 0] else [] := by unfold fb; rw [hkd, hN, hS, hBq]
        rw [hfb] at hd
        obtain ⟨rest, hrest⟩ : ∃ rest, (l0.drop (i + 1).toNat).flatMap fb = rest := ⟨_, rfl⟩
        rw [hrest] at hd
        clear hkd hN hS hBq hfb hdc
        obtain ⟨y0b, y0, y1, y2, y3⟩ := HQ.out _ HB.out
        have hok : Okb t a := ⟨HBT.out, by have := HTL.out; omega, hal⟩
        have ci' := eq_true ci
        have hi0' := eq_true hi0
        have him : i + 1 ≤ 9223372036854775807 := by omega
        have HREST := Aside0.mk hrest
        clear hrest ci hx0 hx1 hx2 hx3 y0b
        by_cases c1 : kd = 1
        · rw [if_pos c1] at hd
          have hle := le_of_drop hal hd
          have c1b : (kd == 1) = true := beq_iff_eq.mpr c1
          have HEND := Aside0.mk (And.intro (show a + (vb N.toNat).length ≤ t.length by omega) (drop_add hd))
          by_cases cL : N ≤ 4611686018427387904
          · obtain ⟨K, hK⟩ := number_back hok hd (by omega) 4611686018427387904 (by omega)
            have hRD := hK K (Nat.le_refl _)
            by_cases cN : 0 ≤ N
            · rw [Int.toNat_of_nonneg cN] at hRD
              have HRD := Aside0.mk hRD
              have f1 : decide (4611686018427387904 < N) = false := decide_eq_false (by omega)
              have f9 : (N != N) = false := by simp
              clear hK hRD hd hle c1 cL
              go_wp2
              refine wp_region_held_drew (S := fun W => Below w1.heap.size w1 W ∧ W.cell? (ad.add (i.toNat * 4)) = some (.int .i64 kd) ∧ W.cell? ⟨(ad.add (i.toNat * 4)).block, (ad.add (i.toNat * 4)).off + 1, none⟩ = some (.int .i64 N) ∧ W.cell? ⟨(ad.add (i.toNat * 4)).block, (ad.add (i.toNat * 4)).off + 2, none⟩ = some (.string S) ∧ W.cell? ⟨(ad.add (i.toNat * 4)).block, (ad.add (i.toNat * 4)).off + 3, none⟩ = some (.bool Bq)) (by kernel_rfl) (HQ.out _ (below_drew1 HB.out)) (fun hHeld => ?_)
              refine wpAnyH_take (i := 0) (oi := { dst := some 24, op := Op.move (Operand.tmp 3), type := 37, pos := "law.go:118", after := #[], guard := none }) (v := ?_) rfl (by kernel_rfl) (by kernel_rfl) (by kernel_rfl) (fun _ _ _ h => h) (Or.inl ⟨by rfl, ?_⟩) (by assumption) ?_
              rotate_left
              · intro w hSw; (try dsimp only at hSw); go_simp; all_goals (with_reducible rfl)
              try simp only [Act.put, List.setIfInBounds_toArray, List.set_cons_zero, List.set_cons_succ]
              refine wpAnyH_take (i := 2) (oi := { dst := some 26, op := Op.move (Operand.tmp 0), type := 32, pos := "law.go:118", after := #[], guard := none }) (v := ?_) rfl (by kernel_rfl) (by kernel_rfl) (by kernel_rfl) (fun _ _ _ h => h) (Or.inl ⟨by rfl, ?_⟩) (by assumption) ?_
              rotate_left
              · intro w hSw; (try dsimp only at hSw); go_simp; all_goals (with_reducible rfl)
              try simp only [Act.put, List.setIfInBounds_toArray, List.set_cons_zero, List.set_cons_succ]
              refine wpAnyH_take (i := 3) (oi := { dst := some 27, op := Op.move (Operand.tmp 4), type := 3, pos := "law.go:118", after := #[], guard := none }) (v := ?_) rfl (by kernel_rfl) (by kernel_rfl) (by kernel_rfl) (fun _ _ _ h => h) (Or.inl ⟨by rfl, ?_⟩) (by assumption) ?_
              rotate_left
              · intro w hSw; (try dsimp only at hSw); go_simp; all_goals (with_reducible rfl)
              try simp only [Act.put, List.setIfInBounds_toArray, List.set_cons_zero, List.set_cons_succ]
              refine wpAnyH_take (i := 4) (oi := { dst := some 28, op := Op.indexAddr 32 (Operand.tmp 26) (Operand.tmp 27), type := 0, pos := "law.go:118", after := #[{ on := 2, ground := Ground.data }, { on := 3, ground := Ground.data }], guard := none }) (v := ?_) rfl (by kernel_rfl) (by kernel_rfl) (by kernel_rfl) (fun _ _ _ h => h) (Or.inl ⟨by rfl, ?_⟩) (by assumption) ?_
              rotate_left
              · intro w hSw; (try dsimp only at hSw); go_simp; all_goals (with_reducible rfl)
              try simp only [Act.put, List.setIfInBounds_toArray, List.set_cons_zero, List.set_cons_succ]
              refine wpAnyH_take (i := 5) (oi := { dst := some 29, op := Op.fieldAddr 40 (Operand.tmp 28) 1, type := 0, pos := "law.go:118", after := #[{ on := 4, ground := Ground.data }], guard := none }) (v := ?_) rfl (by kernel_rfl) (by kernel_rfl) (by kernel_rfl) (fun _ _ _ h => h) (Or.inl ⟨by rfl, ?_⟩) (by assumption) ?_
              rotate_left
              · intro w hSw; (try dsimp only at hSw); go_simp; all_goals (with_reducible rfl)
              try simp only [Act.put, List.setIfInBounds_toArray, List.set_cons_zero, List.set_cons_succ]
              refine wpAnyH_take (i := 6) (oi := { dst := some 30, op := Op.load 3 (Operand.tmp 29), type := 3, pos := "law.go:118", after := #[{ on := 5, ground := Ground.data }], guard := none }) (v := ?_) rfl (by kernel_rfl) (by kernel_rfl) (by kernel_rfl) (fun _ _ _ h => h) (Or.inl ⟨by rfl, ?_⟩) (by assumption) ?_
              rotate_left
              · intro w hSw; (try dsimp only at hSw); go_simp; all_goals (with_reducible rfl)
              try simp only [Act.put, List.setIfInBounds_toArray, List.set_cons_zero, List.set_cons_succ]
              refine wpAnyH_ready (rs := [1]) (by kernel_rfl) (by simp) ?_
              refine AllReadyH.cons (o := { dst := some 25, op := Op.call { callee := Callee.value (Operand.func 31), args := #[Operand.tmp 24, Operand.const (Value.int IntKind.i64 4611686018427387904)], argTypes := #[37, 3] }, type := 3, pos := "law.go:118", after := #[{ on := 0, ground := Ground.data }], guard := none }) rfl (fun KK hKK => ?_) AllReadyH.nil
              go_simp
              go_at_call 31; (refine (pack_Reader_Number.calls K g t (a : Int) 0 4611686018427387904 N ((a + (vb N.toNat).length : Nat) : Int) 0 w1 _ (by repeat (first | exact HI.out | apply IsS102.drew | apply IsS102.drewN)) (by repeat (first | exact HB.out | apply below_drew1 | apply pw_below_drewN)) HRD.out).mono ?_); rintro e w5 ⟨rfl, hi5, hb5, hk5⟩
              try go_wp2_with fail
              refine hKK.out _ _ (HQ.out _ (by assumption)) (fun hHeld => ?_)
              clear hKK KK
              try simp only [Act.put, List.setIfInBounds_toArray, List.set_cons_zero, List.set_cons_succ]
              refine wpAnyH_take (i := 7) (oi := { dst := some 31, op := Op.binOp BinOp.neq 3 (Operand.tmp 25) (Operand.tmp 30) 3, type := 4, pos := "law.go:118", after := #[{ on := 1, ground := Ground.data }, { on := 6, ground := Ground.data }], guard := none }) (v := ?_) rfl (by kernel_rfl) (by kernel_rfl) (by kernel_rfl) (fun _ _ _ h => h) (Or.inl ⟨by rfl, ?_⟩) (by assumption) ?_
              rotate_left
              · intro w hSw; (try dsimp only at hSw); go_simp; all_goals (with_reducible rfl)
              try simp only [Act.put, List.setIfInBounds_toArray, List.set_cons_zero, List.set_cons_succ]
              refine wpAnyH_take (i := 8) (oi := { dst := some 32, op := Op.move (Operand.tmp 31), type := 4, pos := "law.go:118", after := #[{ on := 7, ground := Ground.data }, { on := 1, ground := Ground.chain }], guard := none }) (v := ?_) rfl (by kernel_rfl) (by kernel_rfl) (by kernel_rfl) (fun _ _ _ h => h) (Or.inl ⟨by rfl, ?_⟩) (by assumption) ?_
              rotate_left
              · intro w hSw; (try dsimp only at hSw); go_simp; all_goals (with_reducible rfl)
              try simp only [Act.put, List.setIfInBounds_toArray, List.set_cons_zero, List.set_cons_succ]
              refine wpAnyH_take (i := 9) (oi := { dst := some 33, op := Op.move (Operand.tmp 0), type := 32, pos := "law.go:118", after := #[{ on := 8, ground := Ground.guard }], guard := some (8, true) }) (v := undef) rfl (by kernel_rfl) (by kernel_rfl) (by kernel_rfl) (fun _ _ _ h => h) (Or.inr ⟨by rfl, rfl⟩) (by assumption) ?_
              try simp only [Act.put, List.setIfInBounds_toArray, List.set_cons_zero, List.set_cons_succ]
              refine wpAnyH_take (i := 10) (oi := { dst := some 34, op := Op.move (Operand.tmp 4), type := 3, pos := "law.go:118", after := #[{ on := 8, ground := Ground.guard }], guard := some (8, true) }) (v := undef) rfl (by kernel_rfl) (by kernel_rfl) (by kernel_rfl) (fun _ _ _ h => h) (Or.inr ⟨by rfl, rfl⟩) (by assumption) ?_
              try simp only [Act.put, List.setIfInBounds_toArray, List.set_cons_zero, List.set_cons_succ]
              refine wpAnyH_take (i := 11) (oi := { dst := some 35, op := Op.indexAddr 32 (Operand.tmp 33) (Operand.tmp 34), type := 0, pos := "law.go:118", after := #[{ on := 9, ground := Ground.data }, { on := 10, ground := Ground.data }, { on := 8, ground := Ground.guard }], guard := some (8, true) }) (v := undef) rfl (by kernel_rfl) (by kernel_rfl) (by kernel_rfl) (fun _ _ _ h => h) (Or.inr ⟨by rfl, rfl⟩) (by assumption) ?_
              try simp only [Act.put, List.setIfInBounds_toArray, List.set_cons_zero, List.set_cons_succ]
              refine wpAnyH_take (i := 12) (oi := { dst := some 36, op := Op.fieldAddr 40 (Operand.tmp 35) 1, type := 0, pos := "law.go:118", after := #[{ on := 11, ground := Ground.data }, { on := 8, ground := Ground.guard }], guard := some (8, true) }) (v := undef) rfl (by kernel_rfl) (by kernel_rfl) (by kernel_rfl) (fun _ _ _ h => h) (Or.inr ⟨by rfl, rfl⟩) (by assumption) ?_
              try simp only [Act.put, List.setIfInBounds_toArray, List.set_cons_zero, List.set_cons_succ]
              refine wpAnyH_take (i := 13) (oi := { dst := some 37, op := Op.load 3 (Operand.tmp 36), type := 3, pos := "law.go:118", after := #[{ on := 12, ground := Ground.data }, { on := 8, ground := Ground.guard }], guard := some (8, true) }) (v := undef) rfl (by kernel_rfl) (by kernel_rfl) (by kernel_rfl) (fun _ _ _ h => h) (Or.inr ⟨by rfl, rfl⟩) (by assumption) ?_
              try simp only [Act.put, List.setIfInBounds_toArray, List.set_cons_zero, List.set_cons_succ]
              refine wpAnyH_take (i := 14) (oi := { dst := some 38, op := Op.binOp BinOp.geq 3 (Operand.tmp 37) (Operand.const (Value.int IntKind.i64 0)) 3, type := 4, pos := "law.go:118", after := #[{ on := 13, ground := Ground.data }, { on := 8, ground := Ground.guard }], guard := some (8, true) }) (v := undef) rfl (by kernel_rfl) (by kernel_rfl) (by kernel_rfl) (fun _ _ _ h => h) (Or.inr ⟨by rfl, rfl⟩) (by assumption) ?_
              try simp only [Act.put, List.setIfInBounds_toArray, List.set_cons_zero, List.set_cons_succ]
              refine wpAnyH_take (i := 15) (oi := { dst := some 39, op := Op.pick (Operand.tmp 32) (Operand.tmp 38) (Operand.const (Value.bool false)), type := 4, pos := "law.go:118", after := #[{ on := 8, ground := Ground.data }, { on := 14, ground := Ground.data }], guard := none }) (v := ?_) rfl (by kernel_rfl) (by kernel_rfl) (by kernel_rfl) (fun _ _ _ h => h) (Or.inl ⟨by rfl, ?_⟩) (by assumption) ?_
              rotate_left
              · intro w hSw; (try dsimp only at hSw); go_simp; all_goals (with_reducible rfl)
              try simp only [Act.put, List.setIfInBounds_toArray, List.set_cons_zero, List.set_cons_succ]
              refine wpAnyH_take (i := 16) (oi := { dst := some 40, op := Op.move (Operand.tmp 39), type := 4, pos := "law.go:118", after := #[{ on := 15, ground := Ground.data }, { on := 8, ground := Ground.chain }], guard := none }) (v := ?_) rfl (by kernel_rfl) (by kernel_rfl) (by kernel_rfl) (fun _ _ _ h => h) (Or.inl ⟨by rfl, ?_⟩) (by assumption) ?_
              rotate_left
              · intro w hSw; (try dsimp only at hSw); go_simp; all_goals (with_reducible rfl)
              try simp only [Act.put, List.setIfInBounds_toArray, List.set_cons_zero, List.set_cons_succ]
              refine wpAnyH_take (i := 17) (oi := { dst := some 41, op := Op.move (Operand.tmp 0), type := 32, pos := "law.go:118", after := #[{ on := 16, ground := Ground.guard }], guard := some (16, true) }) (v := undef) rfl (by kernel_rfl) (by kernel_rfl) (by kernel_rfl) (fun _ _ _ h => h) (Or.inr ⟨by rfl, rfl⟩) (by assumption) ?_
              try simp only [Act.put, List.setIfInBounds_toArray, List.set_cons_zero, List.set_cons_succ]
              refine wpAnyH_take (i := 18) (oi := { dst := some 42, op := Op.move (Operand.tmp 4), type := 3, pos := "law.go:118", after := #[{ on := 16, ground := Ground.guard }], guard := some (16, true) }) (v := undef) rfl (by kernel_rfl) (by kernel_rfl) (by kernel_rfl) (fun _ _ _ h => h) (Or.inr ⟨by rfl, rfl⟩) (by assumption) ?_
              try simp only [Act.put, List.setIfInBounds_toArray, List.set_cons_zero, List.set_cons_succ]
              refine wpAnyH_take (i := 19) (oi := { dst := some 43, op := Op.indexAddr 32 (Operand.tmp 41) (Operand.tmp 42), type := 0, pos := "law.go:118", after := #[{ on := 17, ground := Ground.data }, { on := 18, ground := Ground.data }, { on := 16, ground := Ground.guard }], guard := some (16, true) }) (v := undef) rfl (by kernel_rfl) (by kernel_rfl) (by kernel_rfl) (fun _ _ _ h => h) (Or.inr ⟨by rfl, rfl⟩) (by assumption) ?_
              try simp only [Act.put, List.setIfInBounds_toArray, List.set_cons_zero, List.set_cons_succ]
              refine wpAnyH_take (i := 20) (oi := { dst := some 44, op := Op.fieldAddr 40 (Operand.tmp 43) 1, type := 0, pos := "law.go:118", after := #[{ on := 19, ground := Ground.data }, { on := 16, ground := Ground.guard }], guard := some (16, true) }) (v := undef) rfl (by kernel_rfl) (by kernel_rfl) (by kernel_rfl) (fun _ _ _ h => h) (Or.inr ⟨by rfl, rfl⟩) (by assumption) ?_
              try simp only [Act.put, List.setIfInBounds_toArray, List.set_cons_zero, List.set_cons_succ]
              refine wpAnyH_take (i := 21) (oi := { dst := some 45, op := Op.load 3 (Operand.tmp 44), type := 3, pos := "law.go:118", after := #[{ on := 20, ground := Ground.data }, { on := 16, ground := Ground.guard }], guard := some (16, true) }) (v := undef) rfl (by kernel_rfl) (by kernel_rfl) (by kernel_rfl) (fun _ _ _ h => h) (Or.inr ⟨by rfl, rfl⟩) (by assumption) ?_
              try simp only [Act.put, List.setIfInBounds_toArray, List.set_cons_zero, List.set_cons_succ]
              refine wpAnyH_take (i := 22) (oi := { dst := some 46, op := Op.binOp BinOp.leq 3 (Operand.tmp 45) (Operand.const (Value.int IntKind.i64 4611686018427387904)) 3, type := 4, pos := "law.go:118", after := #[{ on := 21, ground := Ground.data }, { on := 16, ground := Ground.guard }], guard := some (16, true) }) (v := undef) rfl (by kernel_rfl) (by kernel_rfl) (by kernel_rfl) (fun _ _ _ h => h) (Or.inr ⟨by rfl, rfl⟩) (by assumption) ?_
              try simp only [Act.put, List.setIfInBounds_toArray, List.set_cons_zero, List.set_cons_succ]
              refine wpAnyH_take (i := 23) (oi := { dst := some 47, op := Op.pick (Operand.tmp 40) (Operand.tmp 46) (Operand.const (Value.bool false)), type := 4, pos := "law.go:118", after := #[{ on := 16, ground := Ground.data }, { on := 22, ground := Ground.data }], guard := none }) (v := ?_) rfl (by kernel_rfl) (by kernel_rfl) (by kernel_rfl) (fun _ _ _ h => h) (Or.inl ⟨by rfl, ?_⟩) (by assumption) ?_
              rotate_left
              · intro w hSw; (try dsimp only at hSw); go_simp; all_goals (with_reducible rfl)
              try simp only [Act.put, List.setIfInBounds_toArray, List.set_cons_zero, List.set_cons_succ]
              refine wpAnyH_done (by kernel_rfl) ?_ _
              all_goals
                have HI5 := Aside0.mk hi5
                have HB5 := Aside0.mk hb5
                have hbb := (HQ.out _ hb5).2
                obtain ⟨z0, z1, z2, z3⟩ := hbb
                clear hi5 hb5 hk5 y0 y1 y2 y3
                clear HI HB
                have HI := HI5
                have HB := HB5
                clear HI5 HB5
                go_wp2
                go_roundg k1
                case measure => omega
                case rel => exact ⟨i + 1, a + (vb N.toNat).length, (by first | rfl | rw [show wrap64 (i + 1) = i + 1 by unfold wrap64; have := HX.out.1; omega]), ⟨by have := HX.out.1; omega, by have := HX.out.2.1; omega, HEND.out.1, by rw [HREST.out]; exact HEND.out.2⟩, HI, HB⟩
            · rw [show ((N.toNat : Nat) : Int) = 0 by omega] at hRD
              have HRD := Aside0.mk hRD
              have f0 : decide (0 ≤ N) = false := decide_eq_false cN
              have f1 : decide (4611686018427387904 < N) = false := decide_eq_false (by omega)
              have f2 : ((0 : Int) != N) = true := bne_iff_ne.mpr (by omega)
              have f3 : ((0 : Int) == N) = false := beq_eq_false_iff_ne.mpr (by omega)
              clear hK hRD hd hle c1 cL cN
              go_wp2
              refine wp_region_held_drew (S := fun W => Below w1.heap.size w1 W ∧ W.cell? (ad.add (i.toNat * 4)) = some (.int .i64 kd) ∧ W.cell? ⟨(ad.add (i.toNat * 4)).block, (ad.add (i.toNat * 4)).off + 1, none⟩ = some (.int .i64 N) ∧ W.cell? ⟨(ad.add (i.toNat * 4)).block, (ad.add (i.toNat * 4)).off + 2, none⟩ = some (.string S) ∧ W.cell? ⟨(ad.add (i.toNat * 4)).block, (ad.add (i.toNat * 4)).off + 3, none⟩ = some (.bool Bq)) (by kernel_rfl) (HQ.out _ (below_drew1 HB.out)) (fun hHeld => ?_)
              refine wpAnyH_take (i := 0) (oi := { dst := some 24, op := Op.move (Operand.tmp 3), type := 37, pos := "law.go:118", after := #[], guard := none }) (v := ?_) rfl (by kernel_rfl) (by kernel_rfl) (by kernel_rfl) (fun _ _ _ h => h) (Or.inl ⟨by rfl, ?_⟩) (by assumption) ?_
              rotate_left
              · intro w hSw; (try dsimp only at hSw); go_simp; all_goals (with_reducible rfl)
              try simp only [Act.put, List.setIfInBounds_toArray, List.set_cons_zero, List.set_cons_succ]
              refine wpAnyH_take (i := 2) (oi := { dst := some 26, op := Op.move (Operand.tmp 0), type := 32, pos := "law.go:118", after := #[], guard := none }) (v := ?_) rfl (by kernel_rfl) (by kernel_rfl) (by kernel_rfl) (fun _ _ _ h => h) (Or.inl ⟨by rfl, ?_⟩) (by assumption) ?_
              rotate_left
              · intro w hSw; (try dsimp only at hSw); go_simp; all_goals (with_reducible rfl)
              try simp only [Act.put, List.setIfInBounds_toArray, List.set_cons_zero, List.set_cons_succ]
              refine wpAnyH_take (i := 3) (oi := { dst := some 27, op := Op.move (Operand.tmp 4), type := 3, pos := "law.go:118", after := #[], guard := none }) (v := ?_) rfl (by kernel_rfl) (by kernel_rfl) (by kernel_rfl) (fun _ _ _ h => h) (Or.inl ⟨by rfl, ?_⟩) (by assumption) ?_
              rotate_left
              · intro w hSw; (try dsimp only at hSw); go_simp; all_goals (with_reducible rfl)
              try simp only [Act.put, List.setIfInBounds_toArray, List.set_cons_zero, List.set_cons_succ]
              refine wpAnyH_take (i := 4) (oi := { dst := some 28, op := Op.indexAddr 32 (Operand.tmp 26) (Operand.tmp 27), type := 0, pos := "law.go:118", after := #[{ on := 2, ground := Ground.data }, { on := 3, ground := Ground.data }], guard := none }) (v := ?_) rfl (by kernel_rfl) (by kernel_rfl) (by kernel_rfl) (fun _ _ _ h => h) (Or.inl ⟨by rfl, ?_⟩) (by assumption) ?_
              rotate_left
              · intro w hSw; (try dsimp only at hSw); go_simp; all_goals (with_reducible rfl)
              try simp only [Act.put, List.setIfInBounds_toArray, List.set_cons_zero, List.set_cons_succ]
              refine wpAnyH_take (i := 5) (oi := { dst := some 29, op := Op.fieldAddr 40 (Operand.tmp 28) 1, type := 0, pos := "law.go:118", after := #[{ on := 4, ground := Ground.data }], guard := none }) (v := ?_) rfl (by kernel_rfl) (by kernel_rfl) (by kernel_rfl) (fun _ _ _ h => h) (Or.inl ⟨by rfl, ?_⟩) (by assumption) ?_
              rotate_left
              · intro w hSw; (try dsimp only at hSw); go_simp; all_goals (with_reducible rfl)
              try simp only [Act.put, List.setIfInBounds_toArray, List.set_cons_zero, List.set_cons_succ]
              refine wpAnyH_take (i := 6) (oi := { dst := some 30, op := Op.load 3 (Operand.tmp 29), type := 3, pos := "law.go:118", after := #[{ on := 5, ground := Ground.data }], guard := none }) (v := ?_) rfl (by kernel_rfl) (by kernel_rfl) (by kernel_rfl) (fun _ _ _ h => h) (Or.inl ⟨by rfl, ?_⟩) (by assumption) ?_
              rotate_left
              · intro w hSw; (try dsimp only at hSw); go_simp; all_goals (with_reducible rfl)
              try simp only [Act.put, List.setIfInBounds_toArray, List.set_cons_zero, List.set_cons_succ]
              refine wpAnyH_ready (rs := [1]) (by kernel_rfl) (by simp) ?_
              refine AllReadyH.cons (o := { dst := some 25, op := Op.call { callee := Callee.value (Operand.func 31), args := #[Operand.tmp 24, Operand.const (Value.int IntKind.i64 4611686018427387904)], argTypes := #[37, 3] }, type := 3, pos := "law.go:118", after := #[{ on := 0, ground := Ground.data }], guard := none }) rfl (fun KK hKK => ?_) AllReadyH.nil
              go_simp
              go_at_call 31; (refine (pack_Reader_Number.calls K g t (a : Int) 0 4611686018427387904 0 ((a + (vb N.toNat).length : Nat) : Int) 0 w1 _ (by repeat (first | exact HI.out | apply IsS102.drew | apply IsS102.drewN)) (by repeat (first | exact HB.out | apply below_drew1 | apply pw_below_drewN)) HRD.out).mono ?_); rintro e w5 ⟨rfl, hi5, hb5, hk5⟩
              try go_wp2_with fail
              refine hKK.out _ _ (HQ.out _ (by assumption)) (fun hHeld => ?_)
              clear hKK KK
              try simp only [Act.put, List.setIfInBounds_toArray, List.set_cons_zero, List.set_cons_succ]
              refine wpAnyH_take (i := 7) (oi := { dst := some 31, op := Op.binOp BinOp.neq 3 (Operand.tmp 25) (Operand.tmp 30) 3, type := 4, pos := "law.go:118", after := #[{ on := 1, ground := Ground.data }, { on := 6, ground := Ground.data }], guard := none }) (v := ?_) rfl (by kernel_rfl) (by kernel_rfl) (by kernel_rfl) (fun _ _ _ h => h) (Or.inl ⟨by rfl, ?_⟩) (by assumption) ?_
              rotate_left
              · intro w hSw; (try dsimp only at hSw); go_simp; all_goals (with_reducible rfl)
              try simp only [Act.put, List.setIfInBounds_toArray, List.set_cons_zero, List.set_cons_succ]
              refine wpAnyH_take (i := 8) (oi := { dst := some 32, op := Op.move (Operand.tmp 31), type := 4, pos := "law.go:118", after := #[{ on := 7, ground := Ground.data }, { on := 1, ground := Ground.chain }], guard := none }) (v := ?_) rfl (by kernel_rfl) (by kernel_rfl) (by kernel_rfl) (fun _ _ _ h => h) (Or.inl ⟨by rfl, ?_⟩) (by assumption) ?_
              rotate_left
              · intro w hSw; (try dsimp only at hSw); go_simp; all_goals (with_reducible rfl)
              try simp only [Act.put, List.setIfInBounds_toArray, List.set_cons_zero, List.set_cons_succ]
              refine wpAnyH_take (i := 9) (oi := { dst := some 33, op := Op.move (Operand.tmp 0), type := 32, pos := "law.go:118", after := #[{ on := 8, ground := Ground.guard }], guard := some (8, true) }) (v := ?_) rfl (by kernel_rfl) (by kernel_rfl) (by kernel_rfl) (fun _ _ _ h => h) (Or.inl ⟨by rfl, ?_⟩) (by assumption) ?_
              rotate_left
              · intro w hSw; (try dsimp only at hSw); go_simp; all_goals (with_reducible rfl)
              try simp only [Act.put, List.setIfInBounds_toArray, List.set_cons_zero, List.set_cons_succ]
              refine wpAnyH_take (i := 10) (oi := { dst := some 34, op := Op.move (Operand.tmp 4), type := 3, pos := "law.go:118", after := #[{ on := 8, ground := Ground.guard }], guard := some (8, true) }) (v := ?_) rfl (by kernel_rfl) (by kernel_rfl) (by kernel_rfl) (fun _ _ _ h => h) (Or.inl ⟨by rfl, ?_⟩) (by assumption) ?_
              rotate_left
              · intro w hSw; (try dsimp only at hSw); go_simp; all_goals (with_reducible rfl)
              try simp only [Act.put, List.setIfInBounds_toArray, List.set_cons_zero, List.set_cons_succ]
              refine wpAnyH_take (i := 11) (oi := { dst := some 35, op := Op.indexAddr 32 (Operand.tmp 33) (Operand.tmp 34), type := 0, pos := "law.go:118", after := #[{ on := 9, ground := Ground.data }, { on := 10, ground := Ground.data }, { on := 8, ground := Ground.guard }], guard := some (8, true) }) (v := ?_) rfl (by kernel_rfl) (by kernel_rfl) (by kernel_rfl) (fun _ _ _ h => h) (Or.inl ⟨by rfl, ?_⟩) (by assumption) ?_
              rotate_left
              · intro w hSw; (try dsimp only at hSw); go_simp; all_goals (with_reducible rfl)
              try simp only [Act.put, List.setIfInBounds_toArray, List.set_cons_zero, List.set_cons_succ]
              refine wpAnyH_take (i := 12) (oi := { dst := some 36, op := Op.fieldAddr 40 (Operand.tmp 35) 1, type := 0, pos := "law.go:118", after := #[{ on := 11, ground := Ground.data }, { on := 8, ground := Ground.guard }], guard := some (8, true) }) (v := ?_) rfl (by kernel_rfl) (by kernel_rfl) (by kernel_rfl) (fun _ _ _ h => h) (Or.inl ⟨by rfl, ?_⟩) (by assumption) ?_
              rotate_left
              · intro w hSw; (try dsimp only at hSw); go_simp; all_goals (with_reducible rfl)
              try simp only [Act.put, List.setIfInBounds_toArray, List.set_cons_zero, List.set_cons_succ]
              refine wpAnyH_take (i := 13) (oi := { dst := some 37, op := Op.load 3 (Operand.tmp 36), type := 3, pos := "law.go:118", after := #[{ on := 12, ground := Ground.data }, { on := 8, ground := Ground.guard }], guard := some (8, true) }) (v := ?_) rfl (by kernel_rfl) (by kernel_rfl) (by kernel_rfl) (fun _ _ _ h => h) (Or.inl ⟨by rfl, ?_⟩) (by assumption) ?_
              rotate_left
              · intro w hSw; (try dsimp only at hSw); go_simp; all_goals (with_reducible rfl)
              try simp only [Act.put, List.setIfInBounds_toArray, List.set_cons_zero, List.set_cons_succ]
              refine wpAnyH_take (i := 14) (oi := { dst := some 38, op := Op.binOp BinOp.geq 3 (Operand.tmp 37) (Operand.const (Value.int IntKind.i64 0)) 3, type := 4, pos := "law.go:118", after := #[{ on := 13, ground := Ground.data }, { on := 8, ground := Ground.guard }], guard := some (8, true) }) (v := ?_) rfl (by kernel_rfl) (by kernel_rfl) (by kernel_rfl) (fun _ _ _ h => h) (Or.inl ⟨by rfl, ?_⟩) (by assumption) ?_
              rotate_left
              · intro w hSw; (try dsimp only at hSw); go_simp; all_goals (with_reducible rfl)
              try simp only [Act.put, List.setIfInBounds_toArray, List.set_cons_zero, List.set_cons_succ]
              refine wpAnyH_take (i := 15) (oi := { dst := some 39, op := Op.pick (Operand.tmp 32) (Operand.tmp 38) (Operand.const (Value.bool false)), type := 4, pos := "law.go:118", after := #[{ on := 8, ground := Ground.data }, { on := 14, ground := Ground.data }], guard := none }) (v := ?_) rfl (by kernel_rfl) (by kernel_rfl) (by kernel_rfl) (fun _ _ _ h => h) (Or.inl ⟨by rfl, ?_⟩) (by assumption) ?_
              rotate_left
              · intro w hSw; (try dsimp only at hSw); go_simp; all_goals (with_reducible rfl)
              try simp only [Act.put, List.setIfInBounds_toArray, List.set_cons_zero, List.set_cons_succ]
              refine wpAnyH_take (i := 16) (oi := { dst := some 40, op := Op.move (Operand.tmp 39), type := 4, pos := "law.go:118", after := #[{ on := 15, ground := Ground.data }, { on := 8, ground := Ground.chain }], guard := none }) (v := ?_) rfl (by kernel_rfl) (by kernel_rfl) (by kernel_rfl) (fun _ _ _ h => h) (Or.inl ⟨by rfl, ?_⟩) (by assumption) ?_
              rotate_left
              · intro w hSw; (try dsimp only at hSw); go_simp; all_goals (with_reducible rfl)
              try simp only [Act.put, List.setIfInBounds_toArray, List.set_cons_zero, List.set_cons_succ]
              refine wpAnyH_take (i := 17) (oi := { dst := some 41, op := Op.move (Operand.tmp 0), type := 32, pos := "law.go:118", after := #[{ on := 16, ground := Ground.guard }], guard := some (16, true) }) (v := undef) rfl (by kernel_rfl) (by kernel_rfl) (by kernel_rfl) (fun _ _ _ h => h) (Or.inr ⟨by rfl, rfl⟩) (by assumption) ?_
              try simp only [Act.put, List.setIfInBounds_toArray, List.set_cons_zero, List.set_cons_succ]
              refine wpAnyH_take (i := 18) (oi := { dst := some 42, op := Op.move (Operand.tmp 4), type := 3, pos := "law.go:118", after := #[{ on := 16, ground := Ground.guard }], guard := some (16, true) }) (v := undef) rfl (by kernel_rfl) (by kernel_rfl) (by kernel_rfl) (fun _ _ _ h => h) (Or.inr ⟨by rfl, rfl⟩) (by assumption) ?_
              try simp only [Act.put, List.setIfInBounds_toArray, List.set_cons_zero, List.set_cons_succ]
              refine wpAnyH_take (i := 19) (oi := { dst := some 43, op := Op.indexAddr 32 (Operand.tmp 41) (Operand.tmp 42), type := 0, pos := "law.go:118", after := #[{ on := 17, ground := Ground.data }, { on := 18, ground := Ground.data }, { on := 16, ground := Ground.guard }], guard := some (16, true) }) (v := undef) rfl (by kernel_rfl) (by kernel_rfl) (by kernel_rfl) (fun _ _ _ h => h) (Or.inr ⟨by rfl, rfl⟩) (by assumption) ?_
              try simp only [Act.put, List.setIfInBounds_toArray, List.set_cons_zero, List.set_cons_succ]
              refine wpAnyH_take (i := 20) (oi := { dst := some 44, op := Op.fieldAddr 40 (Operand.tmp 43) 1, type := 0, pos := "law.go:118", after := #[{ on := 19, ground := Ground.data }, { on := 16, ground := Ground.guard }], guard := some (16, true) }) (v := undef) rfl (by kernel_rfl) (by kernel_rfl) (by kernel_rfl) (fun _ _ _ h => h) (Or.inr ⟨by rfl, rfl⟩) (by assumption) ?_
              try simp only [Act.put, List.setIfInBounds_toArray, List.set_cons_zero, List.set_cons_succ]
              refine wpAnyH_take (i := 21) (oi := { dst := some 45, op := Op.load 3 (Operand.tmp 44), type := 3, pos := "law.go:118", after := #[{ on := 20, ground := Ground.data }, { on := 16, ground := Ground.guard }], guard := some (16, true) }) (v := undef) rfl (by kernel_rfl) (by kernel_rfl) (by kernel_rfl) (fun _ _ _ h => h) (Or.inr ⟨by rfl, rfl⟩) (by assumption) ?_
              try simp only [Act.put, List.setIfInBounds_toArray, List.set_cons_zero, List.set_cons_succ]
              refine wpAnyH_take (i := 22) (oi := { dst := some 46, op := Op.binOp BinOp.leq 3 (Operand.tmp 45) (Operand.const (Value.int IntKind.i64 4611686018427387904)) 3, type := 4, pos := "law.go:118", after := #[{ on := 21, ground := Ground.data }, { on := 16, ground := Ground.guard }], guard := some (16, true) }) (v := undef) rfl (by kernel_rfl) (by kernel_rfl) (by kernel_rfl) (fun _ _ _ h => h) (Or.inr ⟨by rfl, rfl⟩) (by assumption) ?_
              try simp only [Act.put, List.setIfInBounds_toArray, List.set_cons_zero, List.set_cons_succ]
              refine wpAnyH_take (i := 23) (oi := { dst := some 47, op := Op.pick (Operand.tmp 40) (Operand.tmp 46) (Operand.const (Value.bool false)), type := 4, pos := "law.go:118", after := #[{ on := 16, ground := Ground.data }, { on := 22, ground := Ground.data }], guard := none }) (v := ?_) rfl (by kernel_rfl) (by kernel_rfl) (by kernel_rfl) (fun _ _ _ h => h) (Or.inl ⟨by rfl, ?_⟩) (by assumption) ?_
              rotate_left
              · intro w hSw; (try dsimp only at hSw); go_simp; all_goals (with_reducible rfl)
              try simp only [Act.put, List.setIfInBounds_toArray, List.set_cons_zero, List.set_cons_succ]
              refine wpAnyH_done (by kernel_rfl) ?_ _
              all_goals
                have HI5 := Aside0.mk hi5
                have HB5 := Aside0.mk hb5
                have hbb := (HQ.out _ hb5).2
                obtain ⟨z0, z1, z2, z3⟩ := hbb
                clear hi5 hb5 hk5 y0 y1 y2 y3
                clear HI HB
                have HI := HI5
                have HB := HB5
                clear HI5 HB5
                go_wp2
                go_roundg k1
                case measure => omega
                case rel => exact ⟨i + 1, a + (vb N.toNat).length, (by first | rfl | rw [show wrap64 (i + 1) = i + 1 by unfold wrap64; have := HX.out.1; omega]), ⟨by have := HX.out.1; omega, by have := HX.out.2.1; omega, HEND.out.1, by rw [HREST.out]; exact HEND.out.2⟩, HI, HB⟩
          · obtain ⟨K, hK⟩ := number_long hok hd (by omega) 4611686018427387904 (by omega)
            have hRD := hK K (Nat.le_refl _)
            have HRD := Aside0.mk hRD
            have f0 : decide (0 ≤ N) = true := decide_eq_true (by omega)
            have f1 : decide (4611686018427387904 < N) = true := decide_eq_true (by omega)
            have f4 : decide (N ≤ 4611686018427387904) = false := decide_eq_false cL
            have f2 : ((0 : Int) != N) = true := bne_iff_ne.mpr (by omega)
            have f3 : ((0 : Int) == N) = false := beq_eq_false_iff_ne.mpr (by omega)
            clear hK hRD hd hle c1 cL
            go_wp2
            go_region_held3 (fun W => Below w1.heap.size w1 W ∧ W.cell? (ad.add (i.toNat * 4)) = some (.int .i64 kd) ∧ W.cell? ⟨(ad.add (i.toNat * 4)).block, (ad.add (i.toNat * 4)).off + 1, none⟩ = some (.int .i64 N) ∧ W.cell? ⟨(ad.add (i.toNat * 4)).block, (ad.add (i.toNat * 4)).off + 2, none⟩ = some (.string S) ∧ W.cell? ⟨(ad.add (i.toNat * 4)).block, (ad.add (i.toNat * 4)).off + 3, none⟩ = some (.bool Bq)) (first | exact HQ.out _ (by assumption) | exact HQ.out _ HB.out | exact HQ.out _ (below_drew1 HB.out) | exact HQ.out _ (below_drew1 (by assumption)) | exact HQ.out _ (by repeat (first | assumption | exact HB.out | apply below_drew1 | apply pw_below_drewN))) (first | (go_at_call 31; (refine (pack_Reader_Number.calls K g t (a : Int) 0 4611686018427387904 0 ((a + (vb N.toNat).length : Nat) : Int) 2 w1 _ (by repeat (first | exact HI.out | apply IsS102.drew | apply IsS102.drewN)) (by repeat (first | exact HB.out | apply below_drew1 | apply pw_below_drewN)) HRD.out).mono ?_); rintro e w5 ⟨rfl, hi5, hb5, hk5⟩))
            have HI5 := Aside0.mk hi5
            have HB5 := Aside0.mk hb5
            have hbb := (HQ.out _ hb5).2
            obtain ⟨z0, z1, z2, z3⟩ := hbb
            clear hi5 hb5 hk5 HI HB y0 y1 y2 y3
            have HI := HI5
            have HB := HB5
            clear HI5 HB5
            go_wp2_with (first | (go_at_call 26; ((with_reducible refine (changeoverlaw04_awake.calls true _ rfl).mono ?_)); rintro e we ⟨rfl, hb⟩; have HB2 := Aside0.mk (below_step HB.out hb); clear hb HB; have HB := HB2; clear HB2))
            go_ret
            exact ⟨rfl, below_step HBQ.out HB.out⟩
        · rw [if_neg c1] at hd
          have c1b : (kd == 1) = false := beq_eq_false_iff_ne.mpr c1
          by_cases c2 : kd = 2
          · rw [if_pos c2] at hd
            have c2b : (kd == 2) = true := beq_iff_eq.mpr c2
            unfold tb at hd
            rw [List.append_assoc] at hd
            have hle := le_of_drop hal hd
            rw [List.length_append, bytesOf_length] at hle
            have hd2 := drop_add (drop_add hd)
            rw [bytesOf_length] at hd2
            have HEND := Aside0.mk (And.intro (show a + (vb S.size).length + S.size ≤ t.length by omega) hd2)
            obtain ⟨K, hK⟩ := text_back hok hd (by omega) 200 (by omega)
            have HRD := Aside0.mk (hK K (Nat.le_refl _))
            have f9 : (S.toList != S.toList) = false := by simp
            have f8 : (S.toList == S.toList) = true := by simp
            clear hK hd hd2 hle c1 c2
            go_wp2
            go_region_held3 (fun W => Below w1.heap.size w1 W ∧ W.cell? (ad.add (i.toNat * 4)) = some (.int .i64 kd) ∧ W.cell? ⟨(ad.add (i.toNat * 4)).block, (ad.add (i.toNat * 4)).off + 1, none⟩ = some (.int .i64 N) ∧ W.cell? ⟨(ad.add (i.toNat * 4)).block, (ad.add (i.toNat * 4)).off + 2, none⟩ = some (.string S) ∧ W.cell? ⟨(ad.add (i.toNat * 4)).block, (ad.add (i.toNat * 4)).off + 3, none⟩ = some (.bool Bq)) (first | exact HQ.out _ (by assumption) | exact HQ.out _ HB.out | exact HQ.out _ (below_drew1 HB.out) | exact HQ.out _ (below_drew1 (by assumption)) | exact HQ.out _ (by repeat (first | assumption | exact HB.out | apply below_drew1 | apply pw_below_drewN))) (first | (go_at_call 32; (refine (pack_Reader_Text.calls K g t (a : Int) 0 200 S ((a + (vb S.size).length + S.size : Nat) : Int) 0 w1 _ (by repeat (first | exact HI.out | apply IsS102.drew | apply IsS102.drewN)) (by repeat (first | exact HB.out | apply below_drew1 | apply pw_below_drewN)) HRD.out).mono ?_); rintro e w5 ⟨rfl, hi5, hb5, hk5⟩))
            have HI5 := Aside0.mk hi5
            have HB5 := Aside0.mk hb5
            have hbb := (HQ.out _ hb5).2
            obtain ⟨z0, z1, z2, z3⟩ := hbb
            clear hi5 hb5 hk5 HI HB y0 y1 y2 y3
            have HI := HI5
            have HB := HB5
            clear HI5 HB5
            go_wp2
            go_roundg k1
            case measure => omega
            case rel => exact ⟨i + 1, a + (vb S.size).length + S.size, (by first | rfl | rw [show wrap64 (i + 1) = i + 1 by unfold wrap64; have := HX.out.1; omega]), ⟨by have := HX.out.1; omega, by have := HX.out.2.1; omega, HEND.out.1, by rw [HREST.out]; exact HEND.out.2⟩, HI, HB⟩
          rw [if_neg c2] at hd
          have c2b : (kd == 2) = false := beq_eq_false_iff_ne.mpr c2
          by_cases c3 : kd = 3
          · rw [if_pos c3] at hd
            have c3b : (kd == 3) = true := beq_iff_eq.mpr c3
            have hle := le_of_drop hal hd
            simp only [List.length_singleton] at hle
            have hd2 := drop_add hd
            simp only [List.length_singleton] at hd2
            have HEND := Aside0.mk (And.intro (show a + 1 ≤ t.length by omega) hd2)
            have HRD := Aside0.mk (flag_back hok hd)
            have f9 : (Bq != Bq) = false := by simp
            clear hd hd2 hle c1 c2 c3
            go_wp2
            go_region_held3 (fun W => Below w1.heap.size w1 W ∧ W.cell? (ad.add (i.toNat * 4)) = some (.int .i64 kd) ∧ W.cell? ⟨(ad.add (i.toNat * 4)).block, (ad.add (i.toNat * 4)).off + 1, none⟩ = some (.int .i64 N) ∧ W.cell? ⟨(ad.add (i.toNat * 4)).block, (ad.add (i.toNat * 4)).off + 2, none⟩ = some (.string S) ∧ W.cell? ⟨(ad.add (i.toNat * 4)).block, (ad.add (i.toNat * 4)).off + 3, none⟩ = some (.bool Bq)) (first | exact HQ.out _ (by assumption) | exact HQ.out _ HB.out | exact HQ.out _ (below_drew1 HB.out) | exact HQ.out _ (below_drew1 (by assumption)) | exact HQ.out _ (by repeat (first | assumption | exact HB.out | apply below_drew1 | apply pw_below_drewN))) (first | (go_at_call 33; (refine (pack_Reader_Flag.calls g t (a : Int) 0 Bq ((a + 1 : Nat) : Int) 0 w1 _ (by repeat (first | exact HI.out | apply IsS102.drew | apply IsS102.drewN)) (by repeat (first | exact HB.out | apply below_drew1 | apply pw_below_drewN)) HRD.out).mono ?_); rintro e w5 ⟨rfl, hi5, hb5, hk5⟩))
            have HI5 := Aside0.mk hi5
            have HB5 := Aside0.mk hb5
            have hbb := (HQ.out _ hb5).2
            obtain ⟨z0, z1, z2, z3⟩ := hbb
            clear hi5 hb5 hk5 HI HB y0 y1 y2 y3
            have HI := HI5
            have HB := HB5
            clear HI5 HB5
            go_wp2
            go_roundg k1
            case measure => omega
            case rel => exact ⟨i + 1, a + 1, (by first | rfl | rw [show wrap64 (i + 1) = i + 1 by unfold wrap64; have := HX.out.1; omega]), ⟨by have := HX.out.1; omega, by have := HX.out.2.1; omega, HEND.out.1, by rw [HREST.out]; exact HEND.out.2⟩, HI, HB⟩
          · rw [if_neg c3, List.nil_append] at hd
            have c3b : (kd == 3) = false := beq_eq_false_iff_ne.mpr c3
            have HEND := Aside0.mk (And.intro hal hd)
            clear hd c1 c2 c3
            go_wp2
            go_roundg k1
            case measure => omega
            case rel => exact ⟨i + 1, a, (by first | rfl | rw [show wrap64 (i + 1) = i + 1 by unfold wrap64; have := HX.out.1; omega]), ⟨by have := HX.out.1; omega, by have := HX.out.2.1; omega, HEND.out.1, by rw [HREST.out]; exact HEND.out.2⟩, HI, HB⟩
      · have cib : decide (i < (l0.length : Int)) = false := decide_eq_false ci
        have hae : a = t.length := by
          have hd := HX.out.2.2.2
          rw [List.drop_eq_nil_of_le (show l0.length ≤ i.toNat by omega)] at hd
          have := congrArg List.length hd
          rw [List.length_drop] at this
          simp at this
          have := HX.out.2.2.1
          omega
        subst hae
        have HD := Aside0.mk (show pack_Reader_Done.f t (t.length : Int) 0 = some (0, (t.length : Int), 0) by simp only [pack_Reader_Done.f, pack_Reader_Err.f, pack_Reader_left.f, Option.bind_some, if_true]; rw [show wrap64 ((t.length : Int) - (t.length : Int)) = 0 by unfold wrap64; omega]; rfl)
        clear ci
        go_wp2_with (first | (go_at_call 34; ((with_reducible refine (pack_Reader_Done.calls g t (t.length : Int) 0 0 (t.length : Int) 0 w1 _ HI.out HB.out HD.out).mono ?_)); rintro e wd ⟨rfl, hi, hb, hk⟩; have HI2 := Aside0.mk hi; have HB2 := Aside0.mk hb; clear hi hb hk HI HB; have HI := HI2; have HB := HB2; clear HI2 HB2) | (go_at_call 26; ((with_reducible refine (changeoverlaw04_awake.calls true _ rfl).mono ?_)); rintro e we ⟨rfl, hb⟩; have HB2 := Aside0.mk (below_step HB.out hb); clear hb HB; have HB := HB2; clear HB2))
        go_ret
        exact ⟨rfl, below_step HBQ.out HB.out⟩
end Go.Proofs.Ytalpmbeddldfoaa.PA
