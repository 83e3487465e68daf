import Derived.Test.YtalpmbeddldfoaaDoorPMigr
import Derived.Test.YtalpmbeddldfoaaDoorFChangeoverlaw25MigrChecks
import Derived.Test.YtalpmbeddldfoaaDoorStMigrChecks
import Derived.Test.YtalpmbeddldfoaaDoorRows
import Derived.Test.YtalpmbeddldfoaaDoorHandD
import Derived.Lib.LaidIn
import Derived.Lib.LaidU8T
import Derived.LaidLaws
import Derived.MakeChecks
import Derived.LaidMore
import Derived.ProofKit
import Derived.Test.YtalpmbeddldfoaaDoorR
section
/- MigrChecks' law, plain. -/
set_option linter.unusedVariables false
set_option linter.unusedSimpArgs false
namespace Go.Proofs.YtalpmbeddldfoaaDoor.PA
open Go.RowKit Go.IntWalk Go.Proofs.YtalpmbeddldfoaaDoorW.PrintWords Go.Proofs.YtalpmbeddldfoaaDoor.Hand
theorem awake25 : Ev (fun k => qZ.f k) true := Ev.of (fun k => qZ.mono k) (k := 12) (by kernel_rfl)
theorem fin25 : Ev (fun k => (qZ.f k).bind fun t => some t) true := awake25.bind (Ev.now _)
theorem clone_is (a : Int) (l1 : List vP) (l2 : List zo) (h1 : l1.length ≤ 1000) (h2 : l2.length ≤ 1000) : zf.f a l1 l2 = some (a, l1, l2) := by
 unfold zf.f zH.f zR.f
 simp only [Option.bind_some, List.length_nil, Nat.zero_add, List.nil_append]
 rw [if_pos (by omega)]
 simp only [Option.bind_some]
 rw [if_pos (by omega)]
 rfl
theorem migc_j1 (w a : Int) (l1 : List vP) (l2 : List zo) (b : Int) (m1 : List vP) (m2 : List zo) (hs : SmallM l1 l2) (hw : Ev (fun k => vz.f k a l1 l2) w) :
 Ev (fun k => qt.j1 k w a l1 l2 b m1 m2) true := by
 have h1 : l1.length ≤ 1000 := Nat.le_trans hs.1.1 (by omega)
 have h2 : l2.length ≤ 1000 := Nat.le_trans hs.2.1 (by omega)
 have hc := clone_is a l1 l2 h1 h2
 obtain ⟨r, r1, r2, _⟩ := sameM_ev a b l1 m1 l2 m2 h1 h2
 obtain ⟨s, s1, s2, s3⟩ := sameM_ev a a l1 l1 l2 l2 h1 h2
 obtain rfl := s3 rfl rfl rfl
 refine Ev.step (fun k => qt.j1.eq_2 _ _ _ _ _ _ _ _) ?_
 exact hw.bind (vm rfl (r1.bind (r2.bind (vm (by simp) (QQ hc (s1.bind (vm rfl (QQ hc (s2.bind (vm rfl fin25))))))))))
theorem migChecks (a : Int) (l1 : List vP) (l2 : List zo) (b : Int) (m1 : List vP) (m2 : List zo)
 (h1 : l1.length ≤ 9223372036854775807) (h2 : l2.length ≤ 9223372036854775807) (h3 : m1.length ≤ 9223372036854775807) (h4 : m2.length ≤ 9223372036854775807) : ∃ k, qt.f k a l1 l2 b m1 m2 = some true := by
 obtain ⟨c, hc, hc'⟩ := ZA a l1 l2 h1 h2
 obtain ⟨d, hd, hd'⟩ := ZA b m1 m2 h3 h4
 refine Ev.rounds (g := fun k => qt.f k a l1 l2 b m1 m2) ?_
 unfold qt.f
 have big : Ev (fun k => qt.j0 k true a l1 l2 b m1 m2) true := Ev.step (fun k => by simp only [qt.j0]; exact if_pos trivial) fin25
 refine hc.bind ?_
 cases c
 ·refine qW (by simp) (hd.bind ?_)
  cases d
  ·have hs := hc' rfl
   obtain ⟨g, hg, hg'⟩ := refM_ev a l1 l2 hs
   obtain ⟨r, hr, hr'⟩ := migM_ev a l1 l2 hs
   refine Ev.step (fun k => by simp only [qt.j0]; exact if_neg (by simp)) (hg.bind ?_)
   cases g
   ·refine qW (by simp) (migc_j1 3 a l1 l2 b m1 m2 hs ?_)
    rcases hr' with ⟨_, h⟩ | ⟨e, _⟩
    ·have := hg'.mpr h; simp at this
    ·rw [← e]; exact hr
   ·refine vm rfl (migc_j1 0 a l1 l2 b m1 m2 hs ?_)
    rcases hr' with ⟨e, _⟩ | ⟨_, h⟩
    ·rw [← e]; exact hr
    ·exact absurd (hg'.mp rfl) h
  ·exact big
 ·exact vm rfl big
end Go.Proofs.YtalpmbeddldfoaaDoor.PA
end
section
section
section
/- MigrChecks' pure statement. -/
namespace Go.Proofs.YtalpmbeddldfoaaDoor.Pure
open Go.RowKit Go.Proofs.YtalpmbeddldfoaaDoor.PA
theorem MigrChecks : PA.Zk := fun a0 l01 l02 a1 l11 l12 _ h1 _ h2 _ _ h3 _ h4 _ => migChecks a0 l01 l02 a1 l11 l12 h1 h2 h3 h4
end Go.Proofs.YtalpmbeddldfoaaDoor.Pure
end
section
/- The tables that every row of this seat lists: what the condition gives the walks; a world that meets it. -/
namespace Go.Proofs.YtalpmbeddldfoaaDoor.PA
open Go.RowKit Go.Lib Go.Shelf
def Zz : List (String × DataW Unit) := Rows.runesTextsRow.laid
theorem laid_first : (Rows.laid_unicode_utf8_first : DataW Unit) = Lib.firstData := by kernel_rfl
theorem laid_accept : (Rows.laid_unicode_utf8_acceptRanges : DataW Unit) = Lib.acceptData := by kernel_rfl
theorem tabs_of {W : World} (h : laidMetH Tryd.prog Zz W) : Qp W := by
 rw [MakeChecks.laidMetH_plain _ _ _ (by kernel_rfl)] at h
 have h1 := Lib.laidMet.reads (l := Rows.runesTextsRow.laid) h (d := Rows.laid_unicode_utf8_acceptRanges) (.head _)
 have h2 := Lib.laidMet.reads (l := Rows.runesTextsRow.laid) h (d := Rows.laid_unicode_utf8_first) (.tail _ (.head _))
 rw [laid_accept] at h1
 rw [laid_first] at h2
 exact utf8Tabs_of_readsT (U8Types.of260 Tryd.lays260) ⟨by kernel_rfl, by kernel_rfl, by kernel_rfl, by kernel_rfl, by kernel_rfl, by kernel_rfl, by kernel_rfl⟩ h2 h1
noncomputable def Va (os : Os) : World :=
 let w0 := World.holding Tryd.prog os ⟨#[], #[], []⟩
 let put (h : Array Obj) (g : Nat) (cs : Array Value) : Array Obj := h.modify g fun
  | .cells _ t frozen => .cells cs t frozen
  | o => o
 let h1 := put w0.heap 0 (Lib.firstTab.map fun z => Value.int .u8 z).toArray
 let h2 := put h1 1 ((List.range 16).flatMap fun i => [Value.int .u8 (Lib.accLo i), Value.int .u8 (Lib.accHi i)]).toArray
 { w0 with heap := h2 }
theorem laid_met (os : Os) (args : Array Value) : laidMetH Tryd.prog Zz ((Va os).forCall (fun _ _ => 0) ⟨#[], args, []⟩).memory := by
 rw [MakeChecks.laidMetH_plain _ _ _ (by kernel_rfl)]
 exact (LaidIn.of_run (l := Zz) [0, 1] 8 (by kernel_rfl) (by kernel_rfl) (by kernel_rfl) (by kernel_rfl)).met
theorem laid_shaped (os : Os) (args : Array Value) : ((Va os).forCall (fun _ _ => 0) ⟨#[], args, []⟩).Shaped Tryd.prog :=
 World.shaped_of_RefB (by kernel_rfl) (by kernel_rfl)
theorem own : ownKnob Tryd.prog.godebug = none := by kernel_rfl
theorem laidOut : laidOutB Tryd.prog = true := by kernel_rfl
end Go.Proofs.YtalpmbeddldfoaaDoor.PA
end
end
section
/- A state as a parameter: a whole number, the pairs, the sessions. -/
namespace Go.Proofs.YtalpmbeddldfoaaDoor.PA
open Go.RowKit Go.Proofs.YtalpmbeddldfoaaDoorW.PrintWords Go.WideShapes Go.ChangeShapes Go.Deep Go.Proofs.YtalpmbeddldfoaaDoor.Hand
set_option linter.unusedVariables false
theorem ZH {P : Program} {t e : TypeId} {α : Type} {d : Kd α} {Q : α → Prop} (ho : QC P e d Q) (ht : P.underlying t = some (.slice e)) (hs : P.cellsOf e = d.sz) (z : α) {H : Type} {enc : TypeId × Value → H} {w : World} {spare : Nat → Bool} {held : Bool} {n : Nat} {cs : List Value} {xs : List (DataW H × List MemPlace)} {i m : Nat}
 (hl : xs.length = m) (hi : i < m) (h : DataW.trod enc P w 0 spare held n t cs = xs[i]?) : ∃ (A : Option Addr) (cap : Nat) (l : List α), cs = [.slice A l.length cap] ∧ l.length ≤ cap ∧ cap ≤ maxLen ∧ d.C w A l.length l ∧ ∀ x ∈ l, Q x := by
 rw [List.getElem?_eq_getElem (by omega)] at h
 have key : ∃ A len cap, cs = [.slice A len cap] := by
  rcases open_slice ht h with ⟨hc, _⟩ | ⟨a, l', c', m', n', D, Pl, hc, _⟩
  ·exact ⟨_, _, _, hc⟩
  ·exact ⟨_, _, _, hc⟩
 obtain ⟨A, len, cap, rfl⟩ := key
 obtain ⟨l, rfl, h2, h3, h4, h5⟩ := opens_row (A := A) (len := len) (cap := cap) (w := w) (enc := enc) (spare := spare) (held := held) ho ht hs z ⟨n, h⟩
 exact ⟨A, cap, l, rfl, h2, h3, h4, h5⟩
set_option maxRecDepth 100000 in
theorem VW {W w : World} {r : Reach} {b0 : Nat} {H : Type} {enc : TypeId × Value → H} {spare : Nat → Bool} {held : Bool} {v : Value} {dd : DataW H} {ps : List MemPlace}
 (hv : Value.okWide Tryd.prog W r b0 35 v) (h : DataW.Trod enc Tryd.prog w 0 spare held 35 v dd ps) :
 ∃ (a : Int) (A1 : Option Addr) (c1 : Nat) (l1 : List vP) (A2 : Option Addr) (c2 : Nat) (l2 : List zo), v = .agg #[.int .i64 a, .slice A1 l1.length c1, .slice A2 l2.length c2] ∧ (Lit.int .i64 a).wf = true ∧
  (l1.length ≤ c1 ∧ c1 ≤ maxLen ∧ Kd.C zM w A1 l1.length l1 ∧ ∀ x ∈ l1, Q50 x) ∧ (l2.length ≤ c2 ∧ c2 ≤ maxLen ∧ Kd.C jW w A2 l2.length l2 ∧ ∀ x ∈ l2, Q74 x) := by
 obtain ⟨fuel, h⟩ := h
 obtain ⟨cs, rfl, _⟩ := okWide_struct Tryd.underlying35 hv
 obtain ⟨xs, n, _, _, hl, hxl, hf⟩ := DataW.trod_struct Tryd.underlying35 h
 have hl : cs.toList.length = 3 := hl.trans (by kernel_rfl)
 have hxl : xs.length = 3 := hxl
 have c3 : Tryd.prog.cellsOf 3 = 1 := by kernel_rfl
 have cp : Tryd.prog.cellsOf 32 = 1 := by kernel_rfl
 have ce : Tryd.prog.cellsOf 33 = 1 := by kernel_rfl
 have h0 : DataW.trod enc Tryd.prog w 0 spare held n 3 ((cs.toList.drop 0).take 1) = xs[0]? := by have z : DataW.trod enc Tryd.prog w 0 spare held n 3 ((cs.toList.drop 0).take (Tryd.prog.cellsOf 3)) = xs[0]? := hf 0 _ rfl; rwa [c3] at z
 have h1 : DataW.trod enc Tryd.prog w 0 spare held n 32 ((cs.toList.drop 1).take 1) = xs[1]? := by have z : DataW.trod enc Tryd.prog w 0 spare held n 32 ((cs.toList.drop 1).take (Tryd.prog.cellsOf 32)) = xs[1]? := hf 1 _ rfl; rwa [cp] at z
 have h2 : DataW.trod enc Tryd.prog w 0 spare held n 33 ((cs.toList.drop 2).take 1) = xs[2]? := by have z : DataW.trod enc Tryd.prog w 0 spare held n 33 ((cs.toList.drop 2).take (Tryd.prog.cellsOf 33)) = xs[2]? := hf 2 _ rfl; rwa [ce] at z
 obtain ⟨a, k0, q0⟩ := zC (jf (k := .i64) Tryd.underlying3) hxl (by decide) h0
 obtain ⟨A1, c1, l1, k1, q1⟩ := ZH opens50 Tryd.underlying32 (by kernel_rfl) z50 hxl (by decide) h1
 obtain ⟨A2, c2, l2, k2, q2⟩ := ZH opens74 Tryd.underlying33 (by kernel_rfl) z74 hxl (by decide) h2
 refine ⟨a, A1, c1, l1, A2, c2, l2, ?_, q0, q1, q2⟩
 have k0 : (cs.toList.drop 0).take 1 = [.int .i64 a] := k0
 have e : cs.toList = [.int .i64 a, .slice A1 l1.length c1, .slice A2 l2.length c2] := by
  match hm : cs.toList, hl with
  | [x, y, z], _ =>
   rw [hm] at k0 k1 k2
   simp at k0 k1 k2
   rw [k0, k1, k2]
 congr 1
 exact Array.toList_inj.mp (by simpa using e)
end Go.Proofs.YtalpmbeddldfoaaDoor.PA
end
end
