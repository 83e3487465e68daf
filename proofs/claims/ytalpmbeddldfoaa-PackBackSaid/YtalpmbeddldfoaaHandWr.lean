/- pack.Writer: what its methods leave in the writer. -/
import Derived.Test.YtalpmbeddldfoaaFVarintPut
import Derived.Test.YtalpmbeddldfoaaFSlicesCloneByteByte
import Derived.Test.YtalpmbeddldfoaaHandS
namespace Go.Proofs.Ytalpmbeddldfoaa.PA
open Go.RowKit Go.Proofs.Ytalpmbeddldfoaa.Hand Go.Proofs.YtalpmbeddldfoaaW.PrintWords Go.Proofs.YtalpmbeddldfoaaW.PrintLast Go.Proofs.YtalpmbeddldfoaaW.PrintMore
set_option linter.unusedVariables false
set_option linter.unusedSimpArgs false
/-- A writer at block g that holds bytes. -/
def WR (base : Nat) (w : World) (g : Nat) (bs : List Int) : Prop := ∃ v, w.heap[g]? = some (.cells #[v] 97 (0, 0)) ∧ Kd.R (Kd.int .u8) 5 w base (fun _ => True) v bs
theorem WR.below {base : Nat} {w w1 : World} {g : Nat} {bs : List Int} (h : WR base w g bs) (hb : Below w.heap.size w w1) : WR base w1 g bs := by
  obtain ⟨v, h1, h2⟩ := h
  exact ⟨v, (hb.block g (blk_lt h1)).trans h1, Kd.R_below h2 hb⟩
theorem WR.lt {base : Nat} {w : World} {g : Nat} {bs : List Int} (h : WR base w g bs) : g < w.heap.size := by
  obtain ⟨v, h1, h2⟩ := h
  exact blk_lt h1
theorem gset (W : World) (g : Nat) (v : Value) : W.grownBy (W.setCell ⟨g, 0, none⟩ v) (some g) :=
  ⟨rfl, rfl, rfl, by simp [World.size_setCell], fun i hi hne => Below.heap_setCell W ⟨g, 0, none⟩ v i (fun e => hne (by rw [e]))⟩
theorem WR.put {base : Nat} {w w3 : World} {g : Nat} {bs r : List Int} {v : Value} (h : WR base w g bs) (hB : Below w.heap.size w w3) (hR : Kd.R (Kd.int .u8) 5 w3 w.heap.size (fun _ => True) v r) (hb : base ≤ w.heap.size) :
    WR base (w3.setCell ⟨g, 0, none⟩ v) g r ∧ w.grownBy (w3.setCell ⟨g, 0, none⟩ v) (some g) := by
  obtain ⟨v0, h1, h2⟩ := h
  have h3 : w3.heap[g]? = some (.cells #[v0] 97 (0, 0)) := (hB.block g (blk_lt h1)).trans h1
  exact ⟨⟨v, by simpa using blk_set h3 0 v, Kd.R_lower (Kd.R_set hR h3 (by decide) 0 v) hb⟩, (grown_of_below hB (some g)).trans (gset w3 g v)⟩
theorem WR.new (w : World) (base : Nat) (hb : base ≤ w.heap.size) : WR base (w.alloc (.cells #[.slice none 0 0] 97)) w.heap.size [] := ⟨_, heap_alloc_new _ _, Kd.R_nil _ _ _ _ _⟩
set_option maxHeartbeats 4000000 in
theorem wr_number (k g base : Nat) (bs r : List Int) (n : Int) (w : World) (h : WR base w g bs) (hb : base ≤ w.heap.size) (hp : varint_Put.f k bs n = some r) :
    Calls Try.prog 38 #[.pointer (some ⟨g, 0, none⟩), .int .i64 n] w fun e w' => e = .returned (.tuple #[]) ∧ WR base w' g r ∧ w.grownBy w' (some g) := by
  have HW := Aside0.mk h
  have HB := Aside0.mk hb
  have HP := Aside0.mk hp
  obtain ⟨v, h1, h2⟩ := h
  obtain ⟨A, c, rfl, hc, hC⟩ := Kd.R_reads h2
  have x0 := blk_cell h1 0
  have z0 := blk_frozen h1 0
  simp at x0
  have HC := Aside0.mk hc
  have HR := Aside0.mk hC
  clear hb hp h1 h2 hc hC
  go_enter Try.func38, Try.ntmps38
  go_wp2_with (go_at_call 86; ((with_reducible refine (varint_Put.calls k A c bs n r _ HR.out HC.out HP.out).mono ?_)); rintro e w2 ⟨v0, rfl, hv, hb2⟩; obtain ⟨A2, c2, rfl⟩ := Kd.R_slice hv; obtain ⟨HW2, HG⟩ := WR.put HW.out hb2 hv HB.out; have HW2 := Aside0.mk HW2; have HG := Aside0.mk HG; have x2 := (keeps hb2).1; have z2 := (keeps hb2).2; have lg := HW.out.lt; clear hv hb2)
  go_end0
  exact ⟨rfl, HW2.out, HG.out⟩
set_option maxHeartbeats 4000000 in
theorem wr_flag (k g base : Nat) (bs r : List Int) (is : Bool) (w : World) (h : WR base w g bs) (hb : base ≤ w.heap.size) (hp : varint_Put.f k bs (if is then 1 else 0) = some r) :
    Calls Try.prog 40 #[.pointer (some ⟨g, 0, none⟩), .bool is] w fun e w' => e = .returned (.tuple #[]) ∧ WR base w' g r ∧ w.grownBy w' (some g) := by
  have HW := Aside0.mk h
  have HB := Aside0.mk hb
  have HP := Aside0.mk hp
  clear h hb hp
  cases is with
  | true =>
    replace HP := Aside0.mk (show varint_Put.f k bs 1 = some r by simpa using HP.out)
    go_enter Try.func40, Try.ntmps40
    go_wp2_with (go_at_call 38; ((with_reducible refine (wr_number k g base bs r 1 _ HW.out HB.out HP.out).mono ?_)); rintro e w2 ⟨rfl, hv, hg⟩; have HV := Aside0.mk hv; have HG := Aside0.mk hg; clear hv hg)
    go_end0
    exact ⟨rfl, HV.out, HG.out⟩
  | false =>
    replace HP := Aside0.mk (show varint_Put.f k bs 0 = some r by simpa using HP.out)
    go_enter Try.func40, Try.ntmps40
    go_wp2_with (go_at_call 38; ((with_reducible refine (wr_number k g base bs r 0 _ HW.out HB.out HP.out).mono ?_)); rintro e w2 ⟨rfl, hv, hg⟩; have HV := Aside0.mk hv; have HG := Aside0.mk hg; clear hv hg)
    go_end0
    exact ⟨rfl, HV.out, HG.out⟩
set_option maxHeartbeats 4000000 in
theorem wr_raw (k g base : Nat) (bs r l : List Int) (A0 : Option Addr) (c0 : Nat) (w : World) (h : WR base w g bs) (hb : base ≤ w.heap.size) (hr0 : Kd.C (Kd.int .u8) w A0 l.length l) (hc0 : l.length ≤ c0) (hp : varint_Put.f k bs (l.length : Int) = some r) (hL : r.length + l.length ≤ 140737488355328) :
    Calls Try.prog 41 #[.pointer (some ⟨g, 0, none⟩), .slice A0 l.length c0] w fun e w' => e = .returned (.tuple #[]) ∧ WR base w' g (r ++ l) ∧ w.grownBy w' (some g) := by
  have HW := Aside0.mk h
  have HB := Aside0.mk hb
  have HP := Aside0.mk hp
  have HR0 := Aside0.mk hr0
  have HC0 := Aside0.mk hc0
  have HL := Aside0.mk hL
  have hlm : l.length ≤ 9223372036854775807 := hr0.2.1
  have HM := Aside0.mk hlm
  obtain ⟨v, h1, h2⟩ := h
  obtain ⟨A, c, rfl, hc, hC⟩ := Kd.R_reads h2
  have x0 := blk_cell h1 0
  have z0 := blk_frozen h1 0
  simp at x0
  have HC := Aside0.mk hc
  have HR := Aside0.mk hC
  have lg := HW.out.lt
  clear hb hp h1 h2 hc hC hr0 hc0 hL
  go_enter Try.func41, Try.ntmps41
  go_wp2_with (first | (go_at_call 86; ((with_reducible refine (varint_Put.calls k A c bs (l.length : Int) r _ HR.out HC.out HP.out).mono ?_)); rintro e w2 ⟨v0, rfl, hv, hb2⟩; obtain ⟨A2, c2, rfl⟩ := Kd.R_slice hv; have HV := Aside0.mk hv; have HB2 := Aside0.mk hb2; clear hv hb2) | ((with_reducible refine gate_builtin (b := .append) (xs := #[.tmp 13, .tmp 14]) rfl ?_); at_builtin; refine Kd.R_append_rows (Kd.int .u8) (w0 := w) w.heap.size rfl (.tmp 13) (.tmp 14) 35 5 (.int .u8 0) 1 rfl Try.underlying35 info5 rfl (by decide) (by omega) (.slice A2 r.length c2) r l _ _ _ (fun _ => True) (fun _ => False) rfl rfl HV.out (Kd.C_below HR0.out HB2.out) (fun _ _ h => h) (fun _ h => h.elim) (fun _ _ => trivial) HB2.out HB2.out.size (by have := HL.out; omega) ?_; intro v3 w3 ho hb3 hg3 hat; obtain ⟨A3, c3, rfl⟩ := Kd.R_slice ho; obtain ⟨HW2, HG⟩ := WR.put HW.out hb3 ho HB.out; have HW2 := Aside0.mk HW2; have HG := Aside0.mk HG; have x2 := (keeps hb3).1; have z2 := (keeps hb3).2; clear ho hb3 hg3 hat))
  go_end0
  refine ⟨rfl, ?_, ?_⟩
  · have h := HW2.out
    rw [List.length_append] at h
    exact h
  · have h := HG.out
    rw [List.length_append] at h
    exact h
set_option maxHeartbeats 4000000 in
theorem wr_text (k g base : Nat) (bs r : List Int) (s : ByteArray) (w : World) (h : WR base w g bs) (hb : base ≤ w.heap.size) (hs : s.size ≤ 9223372036854775807) (hp : varint_Put.f k bs (s.size : Int) = some r) (hL : r.length + s.size ≤ 140737488355328) :
    Calls Try.prog 39 #[.pointer (some ⟨g, 0, none⟩), .string s] w fun e w' => e = .returned (.tuple #[]) ∧ WR base w' g (r ++ bytesOf s) ∧ w.grownBy w' (some g) := by
  have hbl : (bytesOf s).length = s.size := bytesOf_length s
  have hBl : Below w.heap.size w (Lib.bytesWorld w 5 s) := bytes_below (Below.refl _ _) (Nat.le_refl _) _ s
  have HW := Aside0.mk (h.below hBl)
  have HB := Aside0.mk (Nat.le_trans hb hBl.size)
  have HP := Aside0.mk (show varint_Put.f k bs ((bytesOf s).length : Int) = some r by rw [hbl]; exact hp)
  have HL := Aside0.mk (show r.length + (bytesOf s).length ≤ 140737488355328 by rw [hbl]; exact hL)
  have HR := Aside0.mk (show Kd.C (Kd.int .u8) (Lib.bytesWorld w 5 s) (some ⟨w.heap.size, 0, none⟩) s.size (bytesOf s) from Kd.C_of_reads (enc := Value.int .u8) (d := (0 : Int)) (h1 := fun _ => rfl) (bytes_reads w 5 s hs))
  have HX := Aside0.mk hBl
  have hcap : s.size ≤ grownCap w s.size 0 5 := grownCap_ge w s.size 0 _
  have hrun := print_bytes (P := Try.prog) 9 35 5 Try.underlying9 Try.underlying35 Try.underlying5 s w
  generalize grownCap w s.size 0 5 = c1 at hcap hrun
  generalize Lib.bytesWorld w 5 s = W1 at HW HB HR HX hrun
  rw [← hbl] at hrun hcap HR
  have HC := Aside0.mk hcap
  clear h hb hs hp hL hBl hbl hcap
  generalize bytesOf s = l at *
  go_enter Try.func39, Try.ntmps39
  go_wp2_with (go_at_call 41; ((with_reducible refine (wr_raw k g base bs r l _ c1 _ HW.out HB.out HR.out HC.out HP.out HL.out).mono ?_)); rintro e w2 ⟨rfl, hv, hg⟩; have HV := Aside0.mk hv; have HG := Aside0.mk ((grown_of_below HX.out (some g)).trans hg); clear hv hg)
  go_end0
  exact ⟨rfl, HV.out, HG.out⟩
set_option maxHeartbeats 4000000 in
theorem wr_bytes (g base : Nat) (bs : List Int) (w : World) (h : WR base w g bs) (hL : bs.length < 140737488355328) :
    Calls Try.prog 42 #[.pointer (some ⟨g, 0, none⟩)] w fun e w' => ∃ v0, e = .returned v0 ∧ Kd.R (Kd.int .u8) 5 w' w.heap.size (fun _ => True) v0 bs ∧ Below w.heap.size w w' := by
  obtain ⟨v, h1, h2⟩ := h
  obtain ⟨A, c, rfl, hc, hC⟩ := Kd.R_reads h2
  have x0 := blk_cell h1 0
  simp at x0
  have HC := Aside0.mk hc
  have HR := Aside0.mk hC
  have HQ := Aside0.mk (show slices_Clone_byte_byte.f bs = some bs by simp [slices_Clone_byte_byte.f]; omega)
  clear h1 h2 hc hC hL
  go_enter Try.func42, Try.ntmps42
  go_wp2_with (go_at_call 78; ((with_reducible refine (slices_Clone_byte_byte.calls A c bs bs _ HR.out HC.out HQ.out).mono ?_)); rintro e w2 ⟨v0, rfl, hv, hb2⟩; have HV := Aside0.mk hv; have HB2 := Aside0.mk hb2; clear hv hb2)
  go_ret
  exact ⟨_, rfl, HV.out, HB2.out⟩
end Go.Proofs.Ytalpmbeddldfoaa.PA
