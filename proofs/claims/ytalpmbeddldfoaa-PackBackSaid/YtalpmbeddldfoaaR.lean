-- A text that a program wrote for this claim (rowgen.py).
import Derived.Test.YtalpmbeddldfoaaHandR
import Derived.Test.YtalpmbeddldfoaaF0
set_option linter.unusedVariables false
set_option linter.unusedSimpArgs false
namespace Go.Proofs.Ytalpmbeddldfoaa.PA
open Go.RowKit Go.Proofs.YtalpmbeddldfoaaW.PrintWords Go.Proofs.Ytalpmbeddldfoaa.Hand
def Q40 (x : S40) : Prop := (Lit.int .i64 x.f0).wf = true ∧ (Lit.int .i64 x.f1).wf = true ∧ x.f2.size ≤ maxLen
theorem opens40 : Opens Try.prog 40 k40 Q40 := by
  intro H enc w spare held fuel cs x h
  obtain ⟨xs, n, rfl, rfl, hl, hxl, hf⟩ := DataW.trod_struct Try.underlying40 h
  have hl : cs.length = 4 := hl.trans (by kernel_rfl)
  have hxl : xs.length = 4 := hxl
  have c3 : Try.prog.cellsOf 3 = 1 := by kernel_rfl
  have c4 : Try.prog.cellsOf 4 = 1 := by kernel_rfl
  have c9 : Try.prog.cellsOf 9 = 1 := by kernel_rfl
  have h0 : DataW.trod enc Try.prog w 0 spare held n 3 ((cs.drop 0).take 1) = xs[0]? := by have z : DataW.trod enc Try.prog w 0 spare held n 3 ((cs.drop 0).take (Try.prog.cellsOf 3)) = xs[0]? := hf 0 _ rfl; rwa [c3] at z
  obtain ⟨a0, k0, q0⟩ := field_open (opens_int (k := .i64) Try.underlying3) hxl (by decide) h0
  have h1 : DataW.trod enc Try.prog w 0 spare held n 3 ((cs.drop 1).take 1) = xs[1]? := by have z : DataW.trod enc Try.prog w 0 spare held n 3 ((cs.drop 1).take (Try.prog.cellsOf 3)) = xs[1]? := hf 1 _ rfl; rwa [c3] at z
  obtain ⟨a1, k1, q1⟩ := field_open (opens_int (k := .i64) Try.underlying3) hxl (by decide) h1
  have h2 : DataW.trod enc Try.prog w 0 spare held n 9 ((cs.drop 2).take 1) = xs[2]? := by have z : DataW.trod enc Try.prog w 0 spare held n 9 ((cs.drop 2).take (Try.prog.cellsOf 9)) = xs[2]? := hf 2 _ rfl; rwa [c9] at z
  obtain ⟨a2, k2, q2⟩ := field_open (opens_string Try.underlying9) hxl (by decide) h2
  have h3 : DataW.trod enc Try.prog w 0 spare held n 4 ((cs.drop 3).take 1) = xs[3]? := by have z : DataW.trod enc Try.prog w 0 spare held n 4 ((cs.drop 3).take (Try.prog.cellsOf 4)) = xs[3]? := hf 3 _ rfl; rwa [c4] at z
  obtain ⟨a3, k3, q3⟩ := field_open (opens_bool Try.underlying4) hxl (by decide) h3
  have s0 : cs.drop 0 = _ := part_cut cs 0 1
  have s1 : cs.drop 1 = _ := part_cut cs 1 1
  have s2 : cs.drop 2 = _ := part_cut cs 2 1
  rw [part_last cs 3 1 4 hl rfl] at k3
  exact ⟨⟨a0, a1, a2, a3⟩, ⟨_, _, s0, k0, _, _, s1, k1, _, _, s2, k2, k3⟩, ⟨q0, q1, q2⟩⟩
def Q60 (x : S60) : Prop := (Lit.int .i64 x.f0).wf = true ∧ (Lit.int .i64 x.f1).wf = true ∧ (Lit.int .i64 x.f2).wf = true ∧ x.f4.size ≤ maxLen ∧ (Lit.int .i64 x.f5).wf = true
theorem opens60 : Opens Try.prog 60 k60 Q60 := by
  intro H enc w spare held fuel cs x h
  obtain ⟨xs, n, rfl, rfl, hl, hxl, hf⟩ := DataW.trod_struct Try.underlying60 h
  have hl : cs.length = 6 := hl.trans (by kernel_rfl)
  have hxl : xs.length = 6 := hxl
  have c3 : Try.prog.cellsOf 3 = 1 := by kernel_rfl
  have c4 : Try.prog.cellsOf 4 = 1 := by kernel_rfl
  have c9 : Try.prog.cellsOf 9 = 1 := by kernel_rfl
  have c43 : Try.prog.cellsOf 43 = 1 := by kernel_rfl
  have h0 : DataW.trod enc Try.prog w 0 spare held n 3 ((cs.drop 0).take 1) = xs[0]? := by have z : DataW.trod enc Try.prog w 0 spare held n 3 ((cs.drop 0).take (Try.prog.cellsOf 3)) = xs[0]? := hf 0 _ rfl; rwa [c3] at z
  obtain ⟨a0, k0, q0⟩ := field_open (opens_int (k := .i64) Try.underlying3) hxl (by decide) h0
  have h1 : DataW.trod enc Try.prog w 0 spare held n 3 ((cs.drop 1).take 1) = xs[1]? := by have z : DataW.trod enc Try.prog w 0 spare held n 3 ((cs.drop 1).take (Try.prog.cellsOf 3)) = xs[1]? := hf 1 _ rfl; rwa [c3] at z
  obtain ⟨a1, k1, q1⟩ := field_open (opens_int (k := .i64) Try.underlying3) hxl (by decide) h1
  have h2 : DataW.trod enc Try.prog w 0 spare held n 43 ((cs.drop 2).take 1) = xs[2]? := by have z : DataW.trod enc Try.prog w 0 spare held n 43 ((cs.drop 2).take (Try.prog.cellsOf 43)) = xs[2]? := hf 2 _ rfl; rwa [c43] at z
  obtain ⟨a2, k2, q2⟩ := field_open (opens_int (k := .i64) Try.underlying43) hxl (by decide) h2
  have h3 : DataW.trod enc Try.prog w 0 spare held n 4 ((cs.drop 3).take 1) = xs[3]? := by have z : DataW.trod enc Try.prog w 0 spare held n 4 ((cs.drop 3).take (Try.prog.cellsOf 4)) = xs[3]? := hf 3 _ rfl; rwa [c4] at z
  obtain ⟨a3, k3, q3⟩ := field_open (opens_bool Try.underlying4) hxl (by decide) h3
  have h4 : DataW.trod enc Try.prog w 0 spare held n 9 ((cs.drop 4).take 1) = xs[4]? := by have z : DataW.trod enc Try.prog w 0 spare held n 9 ((cs.drop 4).take (Try.prog.cellsOf 9)) = xs[4]? := hf 4 _ rfl; rwa [c9] at z
  obtain ⟨a4, k4, q4⟩ := field_open (opens_string Try.underlying9) hxl (by decide) h4
  have h5 : DataW.trod enc Try.prog w 0 spare held n 3 ((cs.drop 5).take 1) = xs[5]? := by have z : DataW.trod enc Try.prog w 0 spare held n 3 ((cs.drop 5).take (Try.prog.cellsOf 3)) = xs[5]? := hf 5 _ rfl; rwa [c3] at z
  obtain ⟨a5, k5, q5⟩ := field_open (opens_int (k := .i64) Try.underlying3) hxl (by decide) h5
  have s0 : cs.drop 0 = _ := part_cut cs 0 1
  have s1 : cs.drop 1 = _ := part_cut cs 1 1
  have s2 : cs.drop 2 = _ := part_cut cs 2 1
  have s3 : cs.drop 3 = _ := part_cut cs 3 1
  have s4 : cs.drop 4 = _ := part_cut cs 4 1
  rw [part_last cs 5 1 6 hl rfl] at k5
  exact ⟨⟨a0, a1, a2, a3, a4, a5⟩, ⟨_, _, s0, k0, _, _, s1, k1, _, _, s2, k2, _, _, s3, k3, _, _, s4, k4, k5⟩, ⟨q0, q1, q2, q4, q5⟩⟩
def Q72 (x : S72) : Prop := (Lit.int .i64 x.f0).wf = true ∧ (Lit.int .i64 x.f1).wf = true ∧ (Lit.int .i64 x.f2).wf = true ∧ x.f3.size ≤ maxLen ∧ x.f4.size ≤ maxLen ∧ x.f5.size ≤ maxLen ∧ (Lit.int .i64 x.f6).wf = true
theorem opens72 : Opens Try.prog 72 k72 Q72 := by
  intro H enc w spare held fuel cs x h
  obtain ⟨xs, n, rfl, rfl, hl, hxl, hf⟩ := DataW.trod_struct Try.underlying72 h
  have hl : cs.length = 7 := hl.trans (by kernel_rfl)
  have hxl : xs.length = 7 := hxl
  have c3 : Try.prog.cellsOf 3 = 1 := by kernel_rfl
  have c9 : Try.prog.cellsOf 9 = 1 := by kernel_rfl
  have h0 : DataW.trod enc Try.prog w 0 spare held n 3 ((cs.drop 0).take 1) = xs[0]? := by have z : DataW.trod enc Try.prog w 0 spare held n 3 ((cs.drop 0).take (Try.prog.cellsOf 3)) = xs[0]? := hf 0 _ rfl; rwa [c3] at z
  obtain ⟨a0, k0, q0⟩ := field_open (opens_int (k := .i64) Try.underlying3) hxl (by decide) h0
  have h1 : DataW.trod enc Try.prog w 0 spare held n 3 ((cs.drop 1).take 1) = xs[1]? := by have z : DataW.trod enc Try.prog w 0 spare held n 3 ((cs.drop 1).take (Try.prog.cellsOf 3)) = xs[1]? := hf 1 _ rfl; rwa [c3] at z
  obtain ⟨a1, k1, q1⟩ := field_open (opens_int (k := .i64) Try.underlying3) hxl (by decide) h1
  have h2 : DataW.trod enc Try.prog w 0 spare held n 3 ((cs.drop 2).take 1) = xs[2]? := by have z : DataW.trod enc Try.prog w 0 spare held n 3 ((cs.drop 2).take (Try.prog.cellsOf 3)) = xs[2]? := hf 2 _ rfl; rwa [c3] at z
  obtain ⟨a2, k2, q2⟩ := field_open (opens_int (k := .i64) Try.underlying3) hxl (by decide) h2
  have h3 : DataW.trod enc Try.prog w 0 spare held n 9 ((cs.drop 3).take 1) = xs[3]? := by have z : DataW.trod enc Try.prog w 0 spare held n 9 ((cs.drop 3).take (Try.prog.cellsOf 9)) = xs[3]? := hf 3 _ rfl; rwa [c9] at z
  obtain ⟨a3, k3, q3⟩ := field_open (opens_string Try.underlying9) hxl (by decide) h3
  have h4 : DataW.trod enc Try.prog w 0 spare held n 9 ((cs.drop 4).take 1) = xs[4]? := by have z : DataW.trod enc Try.prog w 0 spare held n 9 ((cs.drop 4).take (Try.prog.cellsOf 9)) = xs[4]? := hf 4 _ rfl; rwa [c9] at z
  obtain ⟨a4, k4, q4⟩ := field_open (opens_string Try.underlying9) hxl (by decide) h4
  have h5 : DataW.trod enc Try.prog w 0 spare held n 9 ((cs.drop 5).take 1) = xs[5]? := by have z : DataW.trod enc Try.prog w 0 spare held n 9 ((cs.drop 5).take (Try.prog.cellsOf 9)) = xs[5]? := hf 5 _ rfl; rwa [c9] at z
  obtain ⟨a5, k5, q5⟩ := field_open (opens_string Try.underlying9) hxl (by decide) h5
  have h6 : DataW.trod enc Try.prog w 0 spare held n 3 ((cs.drop 6).take 1) = xs[6]? := by have z : DataW.trod enc Try.prog w 0 spare held n 3 ((cs.drop 6).take (Try.prog.cellsOf 3)) = xs[6]? := hf 6 _ rfl; rwa [c3] at z
  obtain ⟨a6, k6, q6⟩ := field_open (opens_int (k := .i64) Try.underlying3) hxl (by decide) h6
  have s0 : cs.drop 0 = _ := part_cut cs 0 1
  have s1 : cs.drop 1 = _ := part_cut cs 1 1
  have s2 : cs.drop 2 = _ := part_cut cs 2 1
  have s3 : cs.drop 3 = _ := part_cut cs 3 1
  have s4 : cs.drop 4 = _ := part_cut cs 4 1
  have s5 : cs.drop 5 = _ := part_cut cs 5 1
  rw [part_last cs 6 1 7 hl rfl] at k6
  exact ⟨⟨a0, a1, a2, a3, a4, a5, a6⟩, ⟨_, _, s0, k0, _, _, s1, k1, _, _, s2, k2, _, _, s3, k3, _, _, s4, k4, _, _, s5, k5, k6⟩, ⟨q0, q1, q2, q3, q4, q5, q6⟩⟩
def Q78 (x : S78) : Prop := x.f0.size ≤ maxLen ∧ x.f1.size ≤ maxLen ∧ (Lit.int .i64 x.f2).wf = true
theorem opens78 : Opens Try.prog 78 k78 Q78 := by
  intro H enc w spare held fuel cs x h
  obtain ⟨xs, n, rfl, rfl, hl, hxl, hf⟩ := DataW.trod_struct Try.underlying78 h
  have hl : cs.length = 3 := hl.trans (by kernel_rfl)
  have hxl : xs.length = 3 := hxl
  have c3 : Try.prog.cellsOf 3 = 1 := by kernel_rfl
  have c9 : Try.prog.cellsOf 9 = 1 := by kernel_rfl
  have h0 : DataW.trod enc Try.prog w 0 spare held n 9 ((cs.drop 0).take 1) = xs[0]? := by have z : DataW.trod enc Try.prog w 0 spare held n 9 ((cs.drop 0).take (Try.prog.cellsOf 9)) = xs[0]? := hf 0 _ rfl; rwa [c9] at z
  obtain ⟨a0, k0, q0⟩ := field_open (opens_string Try.underlying9) hxl (by decide) h0
  have h1 : DataW.trod enc Try.prog w 0 spare held n 9 ((cs.drop 1).take 1) = xs[1]? := by have z : DataW.trod enc Try.prog w 0 spare held n 9 ((cs.drop 1).take (Try.prog.cellsOf 9)) = xs[1]? := hf 1 _ rfl; rwa [c9] at z
  obtain ⟨a1, k1, q1⟩ := field_open (opens_string Try.underlying9) hxl (by decide) h1
  have h2 : DataW.trod enc Try.prog w 0 spare held n 3 ((cs.drop 2).take 1) = xs[2]? := by have z : DataW.trod enc Try.prog w 0 spare held n 3 ((cs.drop 2).take (Try.prog.cellsOf 3)) = xs[2]? := hf 2 _ rfl; rwa [c3] at z
  obtain ⟨a2, k2, q2⟩ := field_open (opens_int (k := .i64) Try.underlying3) hxl (by decide) h2
  have s0 : cs.drop 0 = _ := part_cut cs 0 1
  have s1 : cs.drop 1 = _ := part_cut cs 1 1
  rw [part_last cs 2 1 3 hl rfl] at k2
  exact ⟨⟨a0, a1, a2⟩, ⟨_, _, s0, k0, _, _, s1, k1, k2⟩, ⟨q0, q1, q2⟩⟩
def Q89 (x : S89) : Prop := (Lit.int .i64 x.f0).wf = true ∧ (Lit.int .i64 x.f1).wf = true
theorem opens89 : Opens Try.prog 89 k89 Q89 := by
  intro H enc w spare held fuel cs x h
  obtain ⟨xs, n, rfl, rfl, hl, hxl, hf⟩ := DataW.trod_struct Try.underlying89 h
  have hl : cs.length = 2 := hl.trans (by kernel_rfl)
  have hxl : xs.length = 2 := hxl
  have c3 : Try.prog.cellsOf 3 = 1 := by kernel_rfl
  have h0 : DataW.trod enc Try.prog w 0 spare held n 3 ((cs.drop 0).take 1) = xs[0]? := by have z : DataW.trod enc Try.prog w 0 spare held n 3 ((cs.drop 0).take (Try.prog.cellsOf 3)) = xs[0]? := hf 0 _ rfl; rwa [c3] at z
  obtain ⟨a0, k0, q0⟩ := field_open (opens_int (k := .i64) Try.underlying3) hxl (by decide) h0
  have h1 : DataW.trod enc Try.prog w 0 spare held n 3 ((cs.drop 1).take 1) = xs[1]? := by have z : DataW.trod enc Try.prog w 0 spare held n 3 ((cs.drop 1).take (Try.prog.cellsOf 3)) = xs[1]? := hf 1 _ rfl; rwa [c3] at z
  obtain ⟨a1, k1, q1⟩ := field_open (opens_int (k := .i64) Try.underlying3) hxl (by decide) h1
  have s0 : cs.drop 0 = _ := part_cut cs 0 1
  rw [part_last cs 1 1 2 hl rfl] at k1
  exact ⟨⟨a0, a1⟩, ⟨_, _, s0, k0, k1⟩, ⟨q0, q1⟩⟩
def Q91 (x : S91) : Prop := (Lit.int .i64 x.f0).wf = true ∧ Q89 x.f1 ∧ Q72 x.f2
theorem opens91 : Opens Try.prog 91 k91 Q91 := by
  intro H enc w spare held fuel cs x h
  obtain ⟨xs, n, rfl, rfl, hl, hxl, hf⟩ := DataW.trod_struct Try.underlying91 h
  have hl : cs.length = 10 := hl.trans (by kernel_rfl)
  have hxl : xs.length = 3 := hxl
  have c3 : Try.prog.cellsOf 3 = 1 := by kernel_rfl
  have c72 : Try.prog.cellsOf 72 = 7 := by kernel_rfl
  have c89 : Try.prog.cellsOf 89 = 2 := by kernel_rfl
  have h0 : DataW.trod enc Try.prog w 0 spare held n 3 ((cs.drop 0).take 1) = xs[0]? := by have z : DataW.trod enc Try.prog w 0 spare held n 3 ((cs.drop 0).take (Try.prog.cellsOf 3)) = xs[0]? := hf 0 _ rfl; rwa [c3] at z
  obtain ⟨a0, k0, q0⟩ := field_open (opens_int (k := .i64) Try.underlying3) hxl (by decide) h0
  have h1 : DataW.trod enc Try.prog w 0 spare held n 89 ((cs.drop 1).take 2) = xs[1]? := by have z : DataW.trod enc Try.prog w 0 spare held n 89 ((cs.drop 1).take (Try.prog.cellsOf 89)) = xs[1]? := hf 1 _ rfl; rwa [c89] at z
  obtain ⟨a1, k1, q1⟩ := field_open opens89 hxl (by decide) h1
  have h2 : DataW.trod enc Try.prog w 0 spare held n 72 ((cs.drop 3).take 7) = xs[2]? := by have z : DataW.trod enc Try.prog w 0 spare held n 72 ((cs.drop 3).take (Try.prog.cellsOf 72)) = xs[2]? := hf 2 _ rfl; rwa [c72] at z
  obtain ⟨a2, k2, q2⟩ := field_open opens72 hxl (by decide) h2
  have s0 : cs.drop 0 = _ := part_cut cs 0 1
  have s1 : cs.drop 1 = _ := part_cut cs 1 2
  rw [part_last cs 3 7 10 hl rfl] at k2
  exact ⟨⟨a0, a1, a2⟩, ⟨_, _, s0, k0, _, _, s1, k1, k2⟩, ⟨q0, q1, q2⟩⟩
def Q111 (x : S111) : Prop := (Lit.int .i64 x.f0).wf = true ∧ (Lit.int .i64 x.f1).wf = true ∧ Q60 x.f2
theorem opens111 : Opens Try.prog 111 k111 Q111 := by
  intro H enc w spare held fuel cs x h
  obtain ⟨xs, n, rfl, rfl, hl, hxl, hf⟩ := DataW.trod_struct Try.underlying111 h
  have hl : cs.length = 8 := hl.trans (by kernel_rfl)
  have hxl : xs.length = 3 := hxl
  have c3 : Try.prog.cellsOf 3 = 1 := by kernel_rfl
  have c60 : Try.prog.cellsOf 60 = 6 := by kernel_rfl
  have h0 : DataW.trod enc Try.prog w 0 spare held n 3 ((cs.drop 0).take 1) = xs[0]? := by have z : DataW.trod enc Try.prog w 0 spare held n 3 ((cs.drop 0).take (Try.prog.cellsOf 3)) = xs[0]? := hf 0 _ rfl; rwa [c3] at z
  obtain ⟨a0, k0, q0⟩ := field_open (opens_int (k := .i64) Try.underlying3) hxl (by decide) h0
  have h1 : DataW.trod enc Try.prog w 0 spare held n 3 ((cs.drop 1).take 1) = xs[1]? := by have z : DataW.trod enc Try.prog w 0 spare held n 3 ((cs.drop 1).take (Try.prog.cellsOf 3)) = xs[1]? := hf 1 _ rfl; rwa [c3] at z
  obtain ⟨a1, k1, q1⟩ := field_open (opens_int (k := .i64) Try.underlying3) hxl (by decide) h1
  have h2 : DataW.trod enc Try.prog w 0 spare held n 60 ((cs.drop 2).take 6) = xs[2]? := by have z : DataW.trod enc Try.prog w 0 spare held n 60 ((cs.drop 2).take (Try.prog.cellsOf 60)) = xs[2]? := hf 2 _ rfl; rwa [c60] at z
  obtain ⟨a2, k2, q2⟩ := field_open opens60 hxl (by decide) h2
  have s0 : cs.drop 0 = _ := part_cut cs 0 1
  have s1 : cs.drop 1 = _ := part_cut cs 1 1
  rw [part_last cs 2 6 8 hl rfl] at k2
  exact ⟨⟨a0, a1, a2⟩, ⟨_, _, s0, k0, _, _, s1, k1, k2⟩, ⟨q0, q1, q2⟩⟩
end Go.Proofs.Ytalpmbeddldfoaa.PA
