-- A text that a program wrote for this claim (rowgen.py).
import Derived.Test.YtalpmbeddldfoaaDoorHandR
import Derived.Test.YtalpmbeddldfoaaDoorF0
set_option linter.unusedVariables false
set_option linter.unusedSimpArgs false
namespace Go.Proofs.YtalpmbeddldfoaaDoor.PA
open Go.RowKit Go.Proofs.YtalpmbeddldfoaaDoorW.PrintWords Go.Proofs.YtalpmbeddldfoaaDoor.Hand
def Q50 (x : S50) : Prop := x.f0.size ≤ maxLen ∧ x.f1.size ≤ maxLen ∧ (Lit.int .i64 x.f2).wf = true
theorem opens50 : Opens Tryd.prog 50 k50 Q50 := by
  intro H enc w spare held fuel cs x h
  obtain ⟨xs, n, rfl, rfl, hl, hxl, hf⟩ := DataW.trod_struct Tryd.underlying50 h
  have hl : cs.length = 3 := hl.trans (by kernel_rfl)
  have hxl : xs.length = 3 := hxl
  have c3 : Tryd.prog.cellsOf 3 = 1 := by kernel_rfl
  have c9 : Tryd.prog.cellsOf 9 = 1 := by kernel_rfl
  have h0 : DataW.trod enc Tryd.prog w 0 spare held n 9 ((cs.drop 0).take 1) = xs[0]? := by have z : DataW.trod enc Tryd.prog w 0 spare held n 9 ((cs.drop 0).take (Tryd.prog.cellsOf 9)) = xs[0]? := hf 0 _ rfl; rwa [c9] at z
  obtain ⟨a0, k0, q0⟩ := field_open (opens_string Tryd.underlying9) hxl (by decide) h0
  have h1 : DataW.trod enc Tryd.prog w 0 spare held n 9 ((cs.drop 1).take 1) = xs[1]? := by have z : DataW.trod enc Tryd.prog w 0 spare held n 9 ((cs.drop 1).take (Tryd.prog.cellsOf 9)) = xs[1]? := hf 1 _ rfl; rwa [c9] at z
  obtain ⟨a1, k1, q1⟩ := field_open (opens_string Tryd.underlying9) hxl (by decide) h1
  have h2 : DataW.trod enc Tryd.prog w 0 spare held n 3 ((cs.drop 2).take 1) = xs[2]? := by have z : DataW.trod enc Tryd.prog w 0 spare held n 3 ((cs.drop 2).take (Tryd.prog.cellsOf 3)) = xs[2]? := hf 2 _ rfl; rwa [c3] at z
  obtain ⟨a2, k2, q2⟩ := field_open (opens_int (k := .i64) Tryd.underlying3) hxl (by decide) h2
  have s0 : cs.drop 0 = _ := part_cut cs 0 1
  have s1 : cs.drop 1 = _ := part_cut cs 1 1
  rw [part_last cs 2 1 3 hl rfl] at k2
  exact ⟨⟨a0, a1, a2⟩, ⟨_, _, s0, k0, _, _, s1, k1, k2⟩, ⟨q0, q1, q2⟩⟩
def Q72 (x : S72) : Prop := (Lit.int .i64 x.f0).wf = true ∧ (Lit.int .i64 x.f1).wf = true ∧ (Lit.int .i64 x.f2).wf = true ∧ x.f4.size ≤ maxLen ∧ (Lit.int .i64 x.f5).wf = true
theorem opens72 : Opens Tryd.prog 72 k72 Q72 := by
  intro H enc w spare held fuel cs x h
  obtain ⟨xs, n, rfl, rfl, hl, hxl, hf⟩ := DataW.trod_struct Tryd.underlying72 h
  have hl : cs.length = 6 := hl.trans (by kernel_rfl)
  have hxl : xs.length = 6 := hxl
  have c3 : Tryd.prog.cellsOf 3 = 1 := by kernel_rfl
  have c4 : Tryd.prog.cellsOf 4 = 1 := by kernel_rfl
  have c9 : Tryd.prog.cellsOf 9 = 1 := by kernel_rfl
  have c37 : Tryd.prog.cellsOf 37 = 1 := by kernel_rfl
  have h0 : DataW.trod enc Tryd.prog w 0 spare held n 3 ((cs.drop 0).take 1) = xs[0]? := by have z : DataW.trod enc Tryd.prog w 0 spare held n 3 ((cs.drop 0).take (Tryd.prog.cellsOf 3)) = xs[0]? := hf 0 _ rfl; rwa [c3] at z
  obtain ⟨a0, k0, q0⟩ := field_open (opens_int (k := .i64) Tryd.underlying3) hxl (by decide) h0
  have h1 : DataW.trod enc Tryd.prog w 0 spare held n 3 ((cs.drop 1).take 1) = xs[1]? := by have z : DataW.trod enc Tryd.prog w 0 spare held n 3 ((cs.drop 1).take (Tryd.prog.cellsOf 3)) = xs[1]? := hf 1 _ rfl; rwa [c3] at z
  obtain ⟨a1, k1, q1⟩ := field_open (opens_int (k := .i64) Tryd.underlying3) hxl (by decide) h1
  have h2 : DataW.trod enc Tryd.prog w 0 spare held n 37 ((cs.drop 2).take 1) = xs[2]? := by have z : DataW.trod enc Tryd.prog w 0 spare held n 37 ((cs.drop 2).take (Tryd.prog.cellsOf 37)) = xs[2]? := hf 2 _ rfl; rwa [c37] at z
  obtain ⟨a2, k2, q2⟩ := field_open (opens_int (k := .i64) Tryd.underlying37) hxl (by decide) h2
  have h3 : DataW.trod enc Tryd.prog w 0 spare held n 4 ((cs.drop 3).take 1) = xs[3]? := by have z : DataW.trod enc Tryd.prog w 0 spare held n 4 ((cs.drop 3).take (Tryd.prog.cellsOf 4)) = xs[3]? := hf 3 _ rfl; rwa [c4] at z
  obtain ⟨a3, k3, q3⟩ := field_open (opens_bool Tryd.underlying4) hxl (by decide) h3
  have h4 : DataW.trod enc Tryd.prog w 0 spare held n 9 ((cs.drop 4).take 1) = xs[4]? := by have z : DataW.trod enc Tryd.prog w 0 spare held n 9 ((cs.drop 4).take (Tryd.prog.cellsOf 9)) = xs[4]? := hf 4 _ rfl; rwa [c9] at z
  obtain ⟨a4, k4, q4⟩ := field_open (opens_string Tryd.underlying9) hxl (by decide) h4
  have h5 : DataW.trod enc Tryd.prog w 0 spare held n 3 ((cs.drop 5).take 1) = xs[5]? := by have z : DataW.trod enc Tryd.prog w 0 spare held n 3 ((cs.drop 5).take (Tryd.prog.cellsOf 3)) = xs[5]? := hf 5 _ rfl; rwa [c3] at z
  obtain ⟨a5, k5, q5⟩ := field_open (opens_int (k := .i64) Tryd.underlying3) hxl (by decide) h5
  have s0 : cs.drop 0 = _ := part_cut cs 0 1
  have s1 : cs.drop 1 = _ := part_cut cs 1 1
  have s2 : cs.drop 2 = _ := part_cut cs 2 1
  have s3 : cs.drop 3 = _ := part_cut cs 3 1
  have s4 : cs.drop 4 = _ := part_cut cs 4 1
  rw [part_last cs 5 1 6 hl rfl] at k5
  exact ⟨⟨a0, a1, a2, a3, a4, a5⟩, ⟨_, _, s0, k0, _, _, s1, k1, _, _, s2, k2, _, _, s3, k3, _, _, s4, k4, k5⟩, ⟨q0, q1, q2, q4, q5⟩⟩
def Q74 (x : S74) : Prop := (Lit.int .i64 x.f0).wf = true ∧ (Lit.int .i64 x.f1).wf = true ∧ Q72 x.f2
theorem opens74 : Opens Tryd.prog 74 k74 Q74 := by
  intro H enc w spare held fuel cs x h
  obtain ⟨xs, n, rfl, rfl, hl, hxl, hf⟩ := DataW.trod_struct Tryd.underlying74 h
  have hl : cs.length = 8 := hl.trans (by kernel_rfl)
  have hxl : xs.length = 3 := hxl
  have c3 : Tryd.prog.cellsOf 3 = 1 := by kernel_rfl
  have c72 : Tryd.prog.cellsOf 72 = 6 := by kernel_rfl
  have h0 : DataW.trod enc Tryd.prog w 0 spare held n 3 ((cs.drop 0).take 1) = xs[0]? := by have z : DataW.trod enc Tryd.prog w 0 spare held n 3 ((cs.drop 0).take (Tryd.prog.cellsOf 3)) = xs[0]? := hf 0 _ rfl; rwa [c3] at z
  obtain ⟨a0, k0, q0⟩ := field_open (opens_int (k := .i64) Tryd.underlying3) hxl (by decide) h0
  have h1 : DataW.trod enc Tryd.prog w 0 spare held n 3 ((cs.drop 1).take 1) = xs[1]? := by have z : DataW.trod enc Tryd.prog w 0 spare held n 3 ((cs.drop 1).take (Tryd.prog.cellsOf 3)) = xs[1]? := hf 1 _ rfl; rwa [c3] at z
  obtain ⟨a1, k1, q1⟩ := field_open (opens_int (k := .i64) Tryd.underlying3) hxl (by decide) h1
  have h2 : DataW.trod enc Tryd.prog w 0 spare held n 72 ((cs.drop 2).take 6) = xs[2]? := by have z : DataW.trod enc Tryd.prog w 0 spare held n 72 ((cs.drop 2).take (Tryd.prog.cellsOf 72)) = xs[2]? := hf 2 _ rfl; rwa [c72] at z
  obtain ⟨a2, k2, q2⟩ := field_open opens72 hxl (by decide) h2
  have s0 : cs.drop 0 = _ := part_cut cs 0 1
  have s1 : cs.drop 1 = _ := part_cut cs 1 1
  rw [part_last cs 2 6 8 hl rfl] at k2
  exact ⟨⟨a0, a1, a2⟩, ⟨_, _, s0, k0, _, _, s1, k1, k2⟩, ⟨q0, q1, q2⟩⟩
end Go.Proofs.YtalpmbeddldfoaaDoor.PA
