import Derived.Test.YtalpmbeddldfoaaDoorVAll
import Derived.ChangeArms
import Derived.ChangeShapes
import Derived.WideShapes
import Derived.Deep.Slices
import Derived.SizedLaws
import Derived.Test.YtalpmbeddldfoaaDoorF0
section
/- What a parameter's data say in the kinds' own words: a walk down the type, for whole numbers, bools, strings, structs, rows. -/
set_option linter.unusedSimpArgs false
set_option linter.unusedVariables false
namespace Go.Proofs.YtalpmbeddldfoaaDoor.Hand
open Go.RowKit Go.Proofs.YtalpmbeddldfoaaDoorW.PrintWords Go.WideShapes Go.ChangeShapes Go.Deep
def QC (P : Program) (t : TypeId) {α : Type} (d : Kd α) (Q : α → Prop) : Prop :=
 ∀ {H : Type} (enc : TypeId × Value → H) (w : World) (spare : Nat → Bool) (held : Bool) (fuel : Nat) (cs : List Value) (x : DataW H × List MemPlace),
  DataW.trod enc P w 0 spare held fuel t cs = some x → ∃ a, d.K w a cs ∧ Q a
theorem jf {P : Program} {t : TypeId} {k : IntKind} (ht : P.underlying t = some (.int k)) : QC P t (Kd.int k) (fun n => (Lit.int k n).wf = true) := by
 intro H enc w spare held fuel cs x h
 obtain ⟨n, rfl, _, hw⟩ := DataW.trod_int ht h
 exact ⟨n, rfl, hw⟩
theorem opens_bool {P : Program} {t : TypeId} (ht : P.underlying t = some .bool) : QC P t Kd.bool (fun _ => True) := by
 intro H enc w spare held fuel cs x h
 obtain ⟨b, rfl, _⟩ := DataW.trod_bool ht h
 exact ⟨b, rfl, trivial⟩
theorem jU {P : Program} {t : TypeId} (ht : P.underlying t = some .string) : QC P t Kd.string (fun s => s.size ≤ maxLen) := by
 intro H enc w spare held fuel cs x h
 obtain ⟨s, rfl, _, hs⟩ := DataW.trod_string ht h
 exact ⟨s, rfl, hs⟩
theorem zC {P : Program} {t : TypeId} {α : Type} {d : Kd α} {Q : α → Prop} (ho : QC P t d Q) {H : Type} {enc : TypeId × Value → H} {w : World} {spare : Nat → Bool} {held : Bool} {n : Nat} {cs : List Value} {xs : List (DataW H × List MemPlace)} {i m : Nat}
 (hl : xs.length = m) (hi : i < m) (h : DataW.trod enc P w 0 spare held n t cs = xs[i]?) : ∃ a, d.K w a cs ∧ Q a := by
 rw [List.getElem?_eq_getElem (by omega)] at h
 exact ho enc w spare held n cs _ h
theorem jh (cs : List Value) (o c : Nat) : cs.drop o = (cs.drop o).take c ++ cs.drop (o + c) := by rw [← List.drop_drop]; exact (List.take_append_drop _ _).symm
theorem QZ (cs : List Value) (o c n : Nat) (h : cs.length = n) (hn : n = o + c) : (cs.drop o).take c = cs.drop o := List.take_of_length_le (by rw [List.length_drop]; omega)
theorem opens_row {P : Program} {t e : TypeId} {α : Type} {d : Kd α} {Q : α → Prop} (ho : QC P e d Q) (ht : P.underlying t = some (.slice e)) (hs : P.cellsOf e = d.sz) (z : α) {H : Type} {enc : TypeId × Value → H} {w : World} {spare : Nat → Bool} {held : Bool} {A : Option Addr} {len cap : Nat} {dd : DataW H} {ps : List MemPlace}
 (h : DataW.Trod enc P w 0 spare held t (.slice A len cap) dd ps) : ∃ l : List α, l.length = len ∧ len ≤ cap ∧ cap ≤ maxLen ∧ d.C w A l.length l ∧ (∀ x ∈ l, Q x) := by
 obtain ⟨fuel, h⟩ := h
 rcases open_slice ht h with ⟨hc, _⟩ | ⟨a, l', c', m, n, D, Pl, hc, _, hl, hm, hmm, _, hx⟩
 ·simp [Value.cells] at hc
  obtain ⟨rfl, rfl, rfl⟩ := hc
  exact ⟨[], rfl, Nat.le_refl _, by decide, ⟨rfl, Nat.zero_le _, fun h => absurd h (Nat.lt_irrefl 0)⟩, by simp⟩
 ·simp [Value.cells] at hc
  obtain ⟨rfl, rfl, rfl⟩ := hc
  haveI : Inhabited α := ⟨z⟩
  have hlm : len ≤ m := by rw [hmm]; split <;> omega
  obtain ⟨V, hV⟩ := choose_lt (α := α) (n := len) (p := fun i v => Q v ∧ ∃ c, c.length = d.sz ∧ d.K w v c ∧ ∀ j u, c[j]? = some u → w.cell? (a.add (i * d.sz + j)) = some u) (fun i hi => by
   obtain ⟨cs', h1, h2⟩ := hx i (Nat.lt_of_lt_of_le hi hlm)
   obtain ⟨v, hk, hq⟩ := ho enc w spare held n cs' _ h2
   obtain ⟨_, hlen, hcell⟩ := World.cells?_some h1
   refine ⟨v, hq, cs', by rw [hlen, hs], hk, fun j u hj => ?_⟩
   have hjl : j < P.cellsOf e := by rw [← hlen]; exact (List.getElem?_eq_some_iff.1 hj).1
   have := hcell j hjl
   rw [hj, hs] at this
   rw [← this]
   rw [Go.Deep.add_add])
  refine ⟨(List.range len).map V, by simp, hl, hm, ⟨by simp, by have : maxLen = 9223372036854775807 := rfl; rw [List.length_map, List.length_range]; omega, fun _ => ⟨a, rfl, fun j p hp => ?_⟩⟩, fun x hx => ?_⟩
  ·rw [List.getElem?_map] at hp
   obtain ⟨j', hj', rfl⟩ := Option.map_eq_some_iff.1 hp
   obtain ⟨hjl, rfl⟩ := List.getElem?_eq_some_iff.1 hj'
   rw [List.getElem_range]
   exact (hV j (by simpa using hjl)).2
  ·obtain ⟨j, hj, rfl⟩ := List.mem_map.1 hx
   exact (hV j (by simpa using hj)).1
theorem opens_agg {P : Program} {t : TypeId} {α : Type} {d : Kd α} {Q : α → Prop} (ho : QC P t d Q) {fs : Array Field} (ht : P.underlying t = some (.struct fs)) {r : Reach} {W w : World} {b0 : Nat} {H : Type} {enc : TypeId × Value → H} {spare : Nat → Bool} {held : Bool} {v : Value} {dd : DataW H} {ps : List MemPlace}
 (hv : Value.okWide P W r b0 t v) (h : DataW.Trod enc P w 0 spare held t v dd ps) : ∃ (x : α) (cs : List Value), v = .agg cs.toArray ∧ d.K w x cs ∧ Q x := by
 obtain ⟨fuel, h⟩ := h
 obtain ⟨cs, rfl, _⟩ := okWide_struct ht hv
 obtain ⟨x, hk, hq⟩ := ho enc w spare held fuel _ _ h
 exact ⟨x, cs.toList, by simp, hk, hq⟩
theorem row_sized {P : Program} {t e : TypeId} {H : Type} {enc : TypeId × Value → H} {W : World} {base : Nat} {spare : Nat → Bool} {held : Bool} {a : Option Addr} {len cap : Nat} {d : DataW H} {ps : List MemPlace} {ts : List TypeId} {ds : List (DataW H)} {j : Nat}
 (hsz : (DataW.weightsEach P ts ds).all (· ≤ reachBytes) = true) (ht : ts[j]? = some t) (hd : ds[j]? = some d) (hu : P.underlying t = some (.slice e)) (h : DataW.Trod enc P W base spare held t (.slice a len cap) d ps) : len * P.bytesOf e ≤ reachBytes := by
 obtain ⟨fuel, h⟩ := h
 rcases open_slice hu h with ⟨hc, _⟩ | ⟨a, l', c', m, n, D, Pl, hc, _, _, _, _, hx, _⟩
 ·simp [Value.cells] at hc
  obtain ⟨rfl, rfl, rfl⟩ := hc
  exact Nat.le_trans (by simp) (Nat.zero_le _)
 ·simp [Value.cells] at hc
  obtain ⟨rfl, rfl, rfl⟩ := hc
  obtain ⟨rfl, _⟩ := Prod.mk.inj hx
  have z := sized_slice hsz ht hd hu
  rw [List.length_map, List.length_range] at z
  exact Nat.le_trans (Nat.mul_le_mul_right _ (Nat.le_add_right _ _)) z
end Go.Proofs.YtalpmbeddldfoaaDoor.Hand
end
section
set_option linter.unusedVariables false
set_option linter.unusedSimpArgs false
namespace Go.Proofs.YtalpmbeddldfoaaDoor.PA
open Go.RowKit Go.Proofs.YtalpmbeddldfoaaDoorW.PrintWords Go.Proofs.YtalpmbeddldfoaaDoor.Hand
def Q50 (x : vP) : Prop := x.f0.size ≤ maxLen ∧ x.f1.size ≤ maxLen ∧ (Lit.int .i64 x.f2).wf = true
theorem opens50 : QC Tryd.prog 50 zM Q50 := by
 intro H enc w spare held fuel cs x h
 obtain ⟨xs, n, rfl, rfl, hl, hxl, hf⟩ := DataW.trod_struct Tryd.underlying50 h
 have hl : cs.length = 3 := hl.trans (by kernel_rfl)
 have hxl : xs.length = 3 := hxl
 have c3 : Tryd.prog.cellsOf 3 = 1 := by kernel_rfl
 have c9 : Tryd.prog.cellsOf 9 = 1 := by kernel_rfl
 have h0 : DataW.trod enc Tryd.prog w 0 spare held n 9 ((cs.drop 0).take 1) = xs[0]? := by have z : DataW.trod enc Tryd.prog w 0 spare held n 9 ((cs.drop 0).take (Tryd.prog.cellsOf 9)) = xs[0]? := hf 0 _ rfl; rwa [c9] at z
 obtain ⟨a0, k0, q0⟩ := zC (jU Tryd.underlying9) hxl (by decide) h0
 have h1 : DataW.trod enc Tryd.prog w 0 spare held n 9 ((cs.drop 1).take 1) = xs[1]? := by have z : DataW.trod enc Tryd.prog w 0 spare held n 9 ((cs.drop 1).take (Tryd.prog.cellsOf 9)) = xs[1]? := hf 1 _ rfl; rwa [c9] at z
 obtain ⟨a1, k1, q1⟩ := zC (jU Tryd.underlying9) hxl (by decide) h1
 have h2 : DataW.trod enc Tryd.prog w 0 spare held n 3 ((cs.drop 2).take 1) = xs[2]? := by have z : DataW.trod enc Tryd.prog w 0 spare held n 3 ((cs.drop 2).take (Tryd.prog.cellsOf 3)) = xs[2]? := hf 2 _ rfl; rwa [c3] at z
 obtain ⟨a2, k2, q2⟩ := zC (jf (k := .i64) Tryd.underlying3) hxl (by decide) h2
 have s0 : cs.drop 0 = _ := jh cs 0 1
 have s1 : cs.drop 1 = _ := jh cs 1 1
 rw [QZ cs 2 1 3 hl rfl] at k2
 exact ⟨⟨a0, a1, a2⟩, ⟨_, _, s0, k0, _, _, s1, k1, k2⟩, ⟨q0, q1, q2⟩⟩
def Q72 (x : S72) : Prop := (Lit.int .i64 x.f0).wf = true ∧ (Lit.int .i64 x.f1).wf = true ∧ (Lit.int .i64 x.f2).wf = true ∧ x.f4.size ≤ maxLen ∧ (Lit.int .i64 x.f5).wf = true
theorem opens72 : QC Tryd.prog 72 k72 Q72 := by
 intro H enc w spare held fuel cs x h
 obtain ⟨xs, n, rfl, rfl, hl, hxl, hf⟩ := DataW.trod_struct Tryd.underlying72 h
 have hl : cs.length = 6 := hl.trans (by kernel_rfl)
 have hxl : xs.length = 6 := hxl
 have c3 : Tryd.prog.cellsOf 3 = 1 := by kernel_rfl
 have c4 : Tryd.prog.cellsOf 4 = 1 := by kernel_rfl
 have c9 : Tryd.prog.cellsOf 9 = 1 := by kernel_rfl
 have c37 : Tryd.prog.cellsOf 37 = 1 := by kernel_rfl
 have h0 : DataW.trod enc Tryd.prog w 0 spare held n 3 ((cs.drop 0).take 1) = xs[0]? := by have z : DataW.trod enc Tryd.prog w 0 spare held n 3 ((cs.drop 0).take (Tryd.prog.cellsOf 3)) = xs[0]? := hf 0 _ rfl; rwa [c3] at z
 obtain ⟨a0, k0, q0⟩ := zC (jf (k := .i64) Tryd.underlying3) hxl (by decide) h0
 have h1 : DataW.trod enc Tryd.prog w 0 spare held n 3 ((cs.drop 1).take 1) = xs[1]? := by have z : DataW.trod enc Tryd.prog w 0 spare held n 3 ((cs.drop 1).take (Tryd.prog.cellsOf 3)) = xs[1]? := hf 1 _ rfl; rwa [c3] at z
 obtain ⟨a1, k1, q1⟩ := zC (jf (k := .i64) Tryd.underlying3) hxl (by decide) h1
 have h2 : DataW.trod enc Tryd.prog w 0 spare held n 37 ((cs.drop 2).take 1) = xs[2]? := by have z : DataW.trod enc Tryd.prog w 0 spare held n 37 ((cs.drop 2).take (Tryd.prog.cellsOf 37)) = xs[2]? := hf 2 _ rfl; rwa [c37] at z
 obtain ⟨a2, k2, q2⟩ := zC (jf (k := .i64) Tryd.underlying37) hxl (by decide) h2
 have h3 : DataW.trod enc Tryd.prog w 0 spare held n 4 ((cs.drop 3).take 1) = xs[3]? := by have z : DataW.trod enc Tryd.prog w 0 spare held n 4 ((cs.drop 3).take (Tryd.prog.cellsOf 4)) = xs[3]? := hf 3 _ rfl; rwa [c4] at z
 obtain ⟨a3, k3, q3⟩ := zC (opens_bool Tryd.underlying4) hxl (by decide) h3
 have h4 : DataW.trod enc Tryd.prog w 0 spare held n 9 ((cs.drop 4).take 1) = xs[4]? := by have z : DataW.trod enc Tryd.prog w 0 spare held n 9 ((cs.drop 4).take (Tryd.prog.cellsOf 9)) = xs[4]? := hf 4 _ rfl; rwa [c9] at z
 obtain ⟨a4, k4, q4⟩ := zC (jU Tryd.underlying9) hxl (by decide) h4
 have h5 : DataW.trod enc Tryd.prog w 0 spare held n 3 ((cs.drop 5).take 1) = xs[5]? := by have z : DataW.trod enc Tryd.prog w 0 spare held n 3 ((cs.drop 5).take (Tryd.prog.cellsOf 3)) = xs[5]? := hf 5 _ rfl; rwa [c3] at z
 obtain ⟨a5, k5, q5⟩ := zC (jf (k := .i64) Tryd.underlying3) hxl (by decide) h5
 have s0 : cs.drop 0 = _ := jh cs 0 1
 have s1 : cs.drop 1 = _ := jh cs 1 1
 have s2 : cs.drop 2 = _ := jh cs 2 1
 have s3 : cs.drop 3 = _ := jh cs 3 1
 have s4 : cs.drop 4 = _ := jh cs 4 1
 rw [QZ cs 5 1 6 hl rfl] at k5
 exact ⟨⟨a0, a1, a2, a3, a4, a5⟩, ⟨_, _, s0, k0, _, _, s1, k1, _, _, s2, k2, _, _, s3, k3, _, _, s4, k4, k5⟩, ⟨q0, q1, q2, q4, q5⟩⟩
def Q74 (x : zo) : Prop := (Lit.int .i64 x.f0).wf = true ∧ (Lit.int .i64 x.f1).wf = true ∧ Q72 x.f2
theorem opens74 : QC Tryd.prog 74 jW Q74 := by
 intro H enc w spare held fuel cs x h
 obtain ⟨xs, n, rfl, rfl, hl, hxl, hf⟩ := DataW.trod_struct Tryd.underlying74 h
 have hl : cs.length = 8 := hl.trans (by kernel_rfl)
 have hxl : xs.length = 3 := hxl
 have c3 : Tryd.prog.cellsOf 3 = 1 := by kernel_rfl
 have c72 : Tryd.prog.cellsOf 72 = 6 := by kernel_rfl
 have h0 : DataW.trod enc Tryd.prog w 0 spare held n 3 ((cs.drop 0).take 1) = xs[0]? := by have z : DataW.trod enc Tryd.prog w 0 spare held n 3 ((cs.drop 0).take (Tryd.prog.cellsOf 3)) = xs[0]? := hf 0 _ rfl; rwa [c3] at z
 obtain ⟨a0, k0, q0⟩ := zC (jf (k := .i64) Tryd.underlying3) hxl (by decide) h0
 have h1 : DataW.trod enc Tryd.prog w 0 spare held n 3 ((cs.drop 1).take 1) = xs[1]? := by have z : DataW.trod enc Tryd.prog w 0 spare held n 3 ((cs.drop 1).take (Tryd.prog.cellsOf 3)) = xs[1]? := hf 1 _ rfl; rwa [c3] at z
 obtain ⟨a1, k1, q1⟩ := zC (jf (k := .i64) Tryd.underlying3) hxl (by decide) h1
 have h2 : DataW.trod enc Tryd.prog w 0 spare held n 72 ((cs.drop 2).take 6) = xs[2]? := by have z : DataW.trod enc Tryd.prog w 0 spare held n 72 ((cs.drop 2).take (Tryd.prog.cellsOf 72)) = xs[2]? := hf 2 _ rfl; rwa [c72] at z
 obtain ⟨a2, k2, q2⟩ := zC opens72 hxl (by decide) h2
 have s0 : cs.drop 0 = _ := jh cs 0 1
 have s1 : cs.drop 1 = _ := jh cs 1 1
 rw [QZ cs 2 6 8 hl rfl] at k2
 exact ⟨⟨a0, a1, a2⟩, ⟨_, _, s0, k0, _, _, s1, k1, k2⟩, ⟨q0, q1, q2⟩⟩
end Go.Proofs.YtalpmbeddldfoaaDoor.PA
end
