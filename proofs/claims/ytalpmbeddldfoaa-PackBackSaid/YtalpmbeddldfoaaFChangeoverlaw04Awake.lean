-- A text that a program wrote for this claim (print.py over stand-in bodies, tool/pr.sh).
import Derived.Test.YtalpmbeddldfoaaF0
import Derived.Test.YtalpmbeddldfoaaHandWr
import Derived.Test.YtalpmbeddldfoaaFPackNewReader
import Derived.Test.YtalpmbeddldfoaaFPackReaderNumber
import Derived.Test.YtalpmbeddldfoaaFPackReaderText
import Derived.Test.YtalpmbeddldfoaaFPackReaderFlag
import Derived.Test.YtalpmbeddldfoaaFPackReaderDone
import Derived.Test.YtalpmbeddldfoaaFPackReaderErr
import Derived.Test.YtalpmbeddldfoaaFPackReaderRaw
import Derived.Test.YtalpmbeddldfoaaFPackReaderCount
namespace Go.Proofs.Ytalpmbeddldfoaa.PA
open Go.RowKit Go.Proofs.Ytalpmbeddldfoaa.Hand Go.Proofs.YtalpmbeddldfoaaW.PrintWords Go.Proofs.YtalpmbeddldfoaaW.PrintLast Go.Proofs.YtalpmbeddldfoaaW.PrintMore
attribute [local go_sem] max2_int min2_int max_two min_two max_three min_three max_four min_four   -- for this text's walks alone
attribute [local go_sem high] str_leq str_gtr str_geq
set_option linter.unusedVariables false
set_option linter.unusedSimpArgs false

theorem aw_p1 : varint_Put.f 9 [] 300 = some [172, 2] := by decide +kernel
theorem aw_p2 : varint_Put.f 9 [172, 2] (((⟨#[104, 105]⟩ : ByteArray).size : Nat) : Int) = some [172, 2, 2] := by decide +kernel
theorem aw_h2 : bytesOf (⟨#[104, 105]⟩ : ByteArray) = [104, 105] ∧ (⟨#[104, 105]⟩ : ByteArray).size ≤ 9223372036854775807 ∧ ([172, 2, 2] : List Int).length + (⟨#[104, 105]⟩ : ByteArray).size ≤ 140737488355328 := by decide +kernel
theorem aw_hi : bytesOf (⟨#[104, 105]⟩ : ByteArray) = [104, 105] := by decide +kernel
theorem aw_p3 : varint_Put.f 9 [172, 2, 2, 104, 105] (if true then 1 else 0) = some [172, 2, 2, 104, 105, 1] := by decide +kernel
theorem aw_n : pack_NewReader.f [172, 2, 2, 104, 105, 1] = some ([172, 2, 2, 104, 105, 1], 0, 0) := by decide +kernel
theorem aw_r1 : pack_Reader_Number.f 9 [172, 2, 2, 104, 105, 1] 0 0 300 = some (300, 2, 0) := by decide +kernel
theorem aw_r2 : pack_Reader_Text.f 9 [172, 2, 2, 104, 105, 1] 2 0 2 = some (⟨#[104, 105]⟩, 5, 0) := by decide +kernel
theorem aw_r3 : pack_Reader_Flag.f [172, 2, 2, 104, 105, 1] 5 0 = some (true, 6, 0) := by decide +kernel
theorem aw_r4 : pack_Reader_Done.f [172, 2, 2, 104, 105, 1] 6 0 = some (0, 6, 0) := by decide +kernel
/-! ### changeoverlaw04_awake: function 26 -/
def changeoverlaw04_awake.f  : Option (Bool) := some true
set_option maxHeartbeats 8000000 in
set_option maxRecDepth 100000 in
theorem changeoverlaw04_awake.calls  (r : Bool) (w : World) (h : changeoverlaw04_awake.f  = some r) :
    Calls Try.prog 26 #[] w fun e w' => e = .returned (.bool r) ∧ Below w.heap.size w w' := by
  obtain rfl : true = r := by simpa [changeoverlaw04_awake.f] using h
  clear h
  have HB := Aside0.mk ((Below.refl w.heap.size w).alloc (Nat.le_refl _) (.cells #[.slice none 0 0] 97))
  have HW := Aside0.mk (WR.new w w.heap.size (Nat.le_refl _))
  go_enter Try.func26, Try.ntmps26
  go_wp2_with (first | (go_at_call 38; ((with_reducible refine (wr_number 9 _ _ [] _ _ _ HW.out HB.out.size aw_p1).mono ?_)); rintro e w2 ⟨rfl, hv, hg⟩; have HV := Aside0.mk hv; have HG := Aside0.mk (HB.out.grown hg HB.out.size (fun k e => by cases e; exact Nat.le_refl _)); clear hv hg HB HW; have HW := HV; have HB := HG; clear HV HG) | (go_at_call 39; ((with_reducible refine (wr_text 9 _ _ [172, 2] [172, 2, 2] ⟨#[104, 105]⟩ _ HW.out HB.out.size aw_h2.2.1 aw_p2 aw_h2.2.2).mono ?_)); rintro e w3 ⟨rfl, hv, hg⟩; rw [aw_hi] at hv; have HV := Aside0.mk (show WR _ _ _ [172, 2, 2, 104, 105] from hv); have HG := Aside0.mk (HB.out.grown hg HB.out.size (fun k e => by cases e; exact Nat.le_refl _)); clear hv hg HB HW; have HW := HV; have HB := HG; clear HV HG) | (go_at_call 40; ((with_reducible refine (wr_flag 9 _ _ [172, 2, 2, 104, 105] [172, 2, 2, 104, 105, 1] true _ HW.out HB.out.size aw_p3).mono ?_)); rintro e w4 ⟨rfl, hv, hg⟩; have HV := Aside0.mk hv; have HG := Aside0.mk (HB.out.grown hg HB.out.size (fun k e => by cases e; exact Nat.le_refl _)); clear hv hg HB HW; have HW := HV; have HB := HG; clear HV HG) | (go_at_call 42; ((with_reducible refine (wr_bytes _ _ [172, 2, 2, 104, 105, 1] _ HW.out (by decide)).mono ?_)); rintro e w5 ⟨v0, rfl, hv, hb2⟩; obtain ⟨A5, c5, rfl⟩ := Kd.R_slice hv; have HV := Aside0.mk (Kd.R_reads' hv).2; have HG := Aside0.mk (below_step HB.out hb2); have HW2 := Aside0.mk (HW.out.below hb2); (first | (have HI2 := Aside0.mk (HI.out.below hb2); have HB2 := Aside0.mk (below_step HB1.out hb2); clear HI HB1; have HI := HI2; have HB1 := HB2; clear HI2 HB2) | skip); clear hv hb2 HB HW; have HW := HW2; have HB := HG; clear HW2 HG) | (go_at_call 30; refine calls_of_args (args' := #[.slice A5 ([172, 2, 2, 104, 105, 1] : List Int).length c5]) rfl ?_; ((with_reducible refine (pack_NewReader.calls _ _ [172, 2, 2, 104, 105, 1] _ _ _ _ HV.out.2 HV.out.1 aw_n).mono ?_)); rintro e w6 ⟨g6, w7, rfl, hi, hb1, hb2⟩; have HI := Aside0.mk hi; have HB1 := Aside0.mk hb1; have HB0 := Aside0.mk (below_step HB.out hb2); have hbb := below_step hb2 hb1; have HW2 := Aside0.mk (HW.out.below hbb); have HB2 := Aside0.mk (below_step HB.out hbb); clear hi hb1 hb2 hbb HB HW HV; have HW := HW2; have HB := HB2; clear HW2 HB2) | (go_at_call 31; ((with_reducible refine (pack_Reader_Number.calls 9 _ [172, 2, 2, 104, 105, 1] 0 0 300 _ _ _ _ _ HI.out HB1.out aw_r1).mono ?_)); rintro e w8 ⟨rfl, hi, hb1, hk⟩; have HI2 := Aside0.mk hi; have HB2 := Aside0.mk hb1; clear hi hb1 hk HI HB1; have HI := HI2; have HB1 := HB2; clear HI2 HB2) | (go_at_call 32; ((with_reducible refine (pack_Reader_Text.calls 9 _ [172, 2, 2, 104, 105, 1] 2 0 2 _ _ _ _ _ HI.out HB1.out aw_r2).mono ?_)); rintro e w9 ⟨rfl, hi, hb1, hk⟩; have HI2 := Aside0.mk hi; have HB2 := Aside0.mk hb1; clear hi hb1 hk HI HB1; have HI := HI2; have HB1 := HB2; clear HI2 HB2) | (go_at_call 33; ((with_reducible refine (pack_Reader_Flag.calls _ [172, 2, 2, 104, 105, 1] 5 0 _ _ _ _ _ HI.out HB1.out aw_r3).mono ?_)); rintro e w10 ⟨rfl, hi, hb1, hk⟩; have HI2 := Aside0.mk hi; have HB2 := Aside0.mk hb1; clear hi hb1 hk HI HB1; have HI := HI2; have HB1 := HB2; clear HI2 HB2) | (go_at_call 34; ((with_reducible refine (pack_Reader_Done.calls _ [172, 2, 2, 104, 105, 1] 6 0 _ _ _ _ _ HI.out HB1.out aw_r4).mono ?_)); rintro e w11 ⟨rfl, hi, hb1, hk⟩; have HI2 := Aside0.mk hi; have HB2 := Aside0.mk hb1; clear hi hb1 hk HI HB1; have HI := HI2; have HB1 := HB2; clear HI2 HB2))
  go_ret
  exact ⟨rfl, below_step HB0.out HB1.out⟩
end Go.Proofs.Ytalpmbeddldfoaa.PA
