import Derived.Test.YtalpmbeddldfoaaDoorHandBad
import Derived.Test.YtalpmbeddldfoaaDoorF0
import Derived.Test.YtalpmbeddldfoaaDoorFChangeoverref05Val
import Derived.Test.YtalpmbeddldfoaaDoorPKeyVal
import Derived.Test.YtalpmbeddldfoaaDoorFChangeoverref05Key
import Derived.Test.YtalpmbeddldfoaaDoorRows
import Derived.Lib.LaidIn
import Derived.Lib.LaidU8T
import Derived.LaidLaws
import Derived.MakeChecks
import Derived.LaidMore
import Derived.ProofKit
section
section
section
/- The library's tables of UTF-8, as its initialisers lay them: a word for the contracts. -/
namespace Go.Proofs.YtalpmbeddldfoaaDoor.PA
open Go.RowKit
def Tabs (w : World) : Prop := Lib.Utf8Tabs 0 1 w
theorem Tabs.go {w W : World} (h : Tabs w) (hb : Below w.heap.size w W) : Tabs W := Utf8Tabs_below h hb
end Go.Proofs.YtalpmbeddldfoaaDoor.PA
end
section
namespace Go.Proofs.YtalpmbeddldfoaaDoor.PA
open Go.RowKit Go.Proofs.YtalpmbeddldfoaaDoor.Hand Go.Proofs.YtalpmbeddldfoaaDoorW.PrintWords Go.Proofs.YtalpmbeddldfoaaDoorW.PrintLast Go.Proofs.YtalpmbeddldfoaaDoorW.PrintMore
attribute [local go_sem] vQ vS zc za vH vJ vR vT   -- for this text's walks alone
attribute [local go_sem high] vZ zd zb
set_option linter.unusedVariables false
set_option linter.unusedSimpArgs false
def vU.f(k : Nat)(a0 : ByteArray) : Option (Bool):=if(a0.size : Int) > 1073741824 then(if 0≤(a0.size : Int) then(if(a0.size : Int)<(a0.size : Int) then(some ((bt a0 (a0.size : Int)) == 0)) else(none)) else(none)) else((qw.f k a0).bind fun t112=>(some t112))
theorem vU.mono : ∀ a0 k,qY (vU.f k a0) (vU.f (k + 1) a0):=by
 intro a0 k;unfold vU.f
 repeat' first
  | (with_reducible exact qw.mono _ _)
  | (with_reducible exact qY.refl _)
  | (with_reducible exact qY.none _)
  | (with_reducible refine qY.ite ?_ ?_)
  | (with_reducible refine qY.bind ?_ (fun _=>?_))
  | exact qw.mono _ _
  | exact qY.none _
  | refine qY.ite ?_ ?_
  | refine qY.bind ?_ (fun _=>?_)
set_option maxHeartbeats 8000000 in
set_option maxRecDepth 100000 in
theorem vU.calls(k : Nat)(a0 : ByteArray)(r : Bool)(w : World)(h : vU.f k a0=some r)(hT : Tabs w) :
 Calls Tryd.prog 23 #[.string a0] w fun e w'=>e = .returned (.bool r)∧Below w.heap.size w w':=by
 unfold vU.f at h;by_cases hs : (a0.size : Int) > 1073741824
 ·rw [if_pos hs,if_pos (by omega),if_neg (by omega)] at h
  cases h
 ·rw [if_neg hs] at h
  obtain⟨t,ht,hr⟩:=Option.bind_eq_some_iff.mp h;obtain rfl:=Option.some.inj hr;obtain rfl:=Ev_uniq (Ev.of (fun k=>qw.mono a0 k) ht) (refVal_ev a0 (by omega));exact val_walk a0 (by omega) w hT
end Go.Proofs.YtalpmbeddldfoaaDoor.PA
end
end
section
namespace Go.Proofs.YtalpmbeddldfoaaDoor.PA
open Go.RowKit Go.Proofs.YtalpmbeddldfoaaDoor.Hand Go.Proofs.YtalpmbeddldfoaaDoorW.PrintWords Go.Proofs.YtalpmbeddldfoaaDoorW.PrintLast Go.Proofs.YtalpmbeddldfoaaDoorW.PrintMore
attribute [local go_sem] vQ vS zc za vH vJ vR vT   -- for this text's walks alone
attribute [local go_sem high] vZ zd zb
set_option linter.unusedVariables false
set_option linter.unusedSimpArgs false
def vV.f(k : Nat)(a0 : ByteArray) : Option (Bool):=if(a0.size : Int) > 1073741824 then(if 0≤(a0.size : Int) then(if(a0.size : Int)<(a0.size : Int) then(some ((bt a0 (a0.size : Int)) == 0)) else(none)) else(none)) else((qv.f k a0).bind fun t109=>(some t109))
theorem vV.mono : ∀ a0 k,qY (vV.f k a0) (vV.f (k + 1) a0):=by
 intro a0 k;unfold vV.f
 repeat' first
  | (with_reducible exact qv.mono _ _)
  | (with_reducible exact qY.refl _)
  | (with_reducible exact qY.none _)
  | (with_reducible refine qY.ite ?_ ?_)
  | (with_reducible refine qY.bind ?_ (fun _=>?_))
  | exact qv.mono _ _
  | exact qY.none _
  | refine qY.ite ?_ ?_
  | refine qY.bind ?_ (fun _=>?_)
set_option maxHeartbeats 8000000 in
set_option maxRecDepth 100000 in
theorem vV.calls(k : Nat)(a0 : ByteArray)(r : Bool)(w : World)(h : vV.f k a0=some r)(hT : Tabs w) :
 Calls Tryd.prog 21 #[.string a0] w fun e w'=>e = .returned (.bool r)∧Below w.heap.size w w':=by
 unfold vV.f at h;by_cases hs : (a0.size : Int) > 1073741824
 ·rw [if_pos hs,if_pos (by omega),if_neg (by omega)] at h
  cases h
 ·rw [if_neg hs] at h
  obtain⟨t,ht,hr⟩:=Option.bind_eq_some_iff.mp h;obtain rfl:=Option.some.inj hr;obtain rfl:=Ev_uniq (Ev.of (fun k=>qv.mono a0 k) ht) (refKey_ev a0 (by omega));exact key_walk a0 (by omega) w hT
end Go.Proofs.YtalpmbeddldfoaaDoor.PA
end
end
section
/- The tables that every row of this seat lists: what the condition gives the walks; a world that meets it. -/
namespace Go.Proofs.YtalpmbeddldfoaaDoor.PA
open Go.RowKit Go.Lib Go.Shelf
def laidL : List (String × DataW Unit) := Rows.runesTextsRow.laid
theorem laid_first : (Rows.laid_unicode_utf8_first : DataW Unit) = Lib.firstData := by kernel_rfl
theorem laid_accept : (Rows.laid_unicode_utf8_acceptRanges : DataW Unit) = Lib.acceptData := by kernel_rfl
theorem tabs_of {W : World} (h : laidMetH Tryd.prog laidL W) : Tabs W := by
  rw [MakeChecks.laidMetH_plain _ _ _ (by kernel_rfl)] at h
  have h1 := Lib.laidMet.reads (l := Rows.runesTextsRow.laid) h (d := Rows.laid_unicode_utf8_acceptRanges) (.head _)
  have h2 := Lib.laidMet.reads (l := Rows.runesTextsRow.laid) h (d := Rows.laid_unicode_utf8_first) (.tail _ (.head _))
  rw [laid_accept] at h1
  rw [laid_first] at h2
  exact utf8Tabs_of_readsT (U8Types.of260 Tryd.lays260) ⟨by kernel_rfl, by kernel_rfl, by kernel_rfl, by kernel_rfl, by kernel_rfl, by kernel_rfl, by kernel_rfl⟩ h2 h1
noncomputable def laidWorld (os : Os) : World :=
  let w0 := World.holding Tryd.prog os ⟨#[], #[], []⟩
  let put (h : Array Obj) (g : Nat) (cs : Array Value) : Array Obj := h.modify g fun
    | .cells _ t frozen => .cells cs t frozen
    | o => o
  let h1 := put w0.heap 0 (Lib.firstTab.map fun z => Value.int .u8 z).toArray
  let h2 := put h1 1 ((List.range 16).flatMap fun i => [Value.int .u8 (Lib.accLo i), Value.int .u8 (Lib.accHi i)]).toArray
  { w0 with heap := h2 }
theorem laid_met (os : Os) (args : Array Value) : laidMetH Tryd.prog laidL ((laidWorld os).forCall (fun _ _ => 0) ⟨#[], args, []⟩).memory := by
  rw [MakeChecks.laidMetH_plain _ _ _ (by kernel_rfl)]
  exact (LaidIn.of_run (l := laidL) [0, 1] 8 (by kernel_rfl) (by kernel_rfl) (by kernel_rfl) (by kernel_rfl)).met
theorem laid_shaped (os : Os) (args : Array Value) : ((laidWorld os).forCall (fun _ _ => 0) ⟨#[], args, []⟩).Shaped Tryd.prog :=
  World.shaped_of_RefB (by kernel_rfl) (by kernel_rfl)
theorem own : ownKnob Tryd.prog.godebug = none := by kernel_rfl
theorem laidOut : laidOutB Tryd.prog = true := by kernel_rfl
end Go.Proofs.YtalpmbeddldfoaaDoor.PA
end
