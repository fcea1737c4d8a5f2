/- Each Go function as a Lean function, with the proof that the call comes to just its answer; or a law's row out of its pure statement. Conditions: the arguments are of their kinds. Written by this session's program wip/xp/xp.sh. -/
import Derived.Test.YtkebpfpkohehgaaX0
import Derived.Test.YtkebpfpkohehgaaOpen
namespace Go.Proofs.Ytkebpfpkohehgaa.X
open Go.RowKit Go.Proofs.YtkebpfpkohehgaaW.PrintWords Go.Proofs.YtkebpfpkohehgaaW.PrintLast Go.Proofs.YtkebpfpkohehgaaW.PrintMore
attribute [local go_sem] max2_int min2_int max_two min_two max_three min_three max_four min_four   -- for this text's walks alone
set_option linter.unusedVariables false
set_option linter.unusedSimpArgs false

open Go.Proofs.Ytkebpfpkohehgaa.Open
def wf84 (x : S84) : Prop := (Lit.int .i64 x.f0).wf = true ∧ (Lit.int .u64 x.f1).wf = true
def wf110 (x : S110) : Prop := (Lit.int .i64 x.f0).wf = true ∧ ((x.f1).length ≤ maxLen ∧ ∀ y ∈ x.f1, wf84 y)
def wf77 (x : S77) : Prop := ((x.f0).length ≤ maxLen ∧ ∀ y ∈ x.f0, wf84 y) ∧ ((x.f1).length ≤ maxLen ∧ ∀ y ∈ x.f1, wf110 y)
def wf25 (x : S25) : Prop := (Lit.int .i64 x.f0).wf = true ∧ (Lit.int .i64 x.f1).wf = true ∧ ((x.f2).length ≤ maxLen ∧ ∀ y ∈ x.f2, wf84 y) ∧ ((x.f3).length ≤ maxLen ∧ ∀ y ∈ x.f3, wf77 y)
set_option maxRecDepth 100000 in
theorem opens_84 : Opens Try.prog k84 wf84 84 := fun {_ _ _ _ _ _ _ cs _} h => by
  obtain ⟨xs, n, _, _, hl, hxs, hf⟩ := DataW.trod_struct Try.underlying84 h
  have hl2 : cs.length = 2 := hl.trans (by kernel_rfl)
  have hx2 : xs.length = 2 := hxs
  have e3 : Try.prog.cellsOf 3 = 1 := by kernel_rfl
  have e66 : Try.prog.cellsOf 66 = 1 := by kernel_rfl
  match cs, hl2 with
  | [c0, c1], _ =>
    obtain ⟨y0, g0⟩ := field_at (hf 0 _ rfl) e3 rfl (by omega)
    obtain ⟨a0, K0, w0⟩ := (opens_int Try.underlying3) g0
    obtain ⟨y1, g1⟩ := field_at (hf 1 _ rfl) e66 rfl (by omega)
    obtain ⟨a1, K1, w1⟩ := (opens_int Try.underlying66) g1
    exact ⟨⟨a0, a1⟩, ⟨[c0], [c1], rfl, K0, K1⟩, w0, w1⟩
set_option maxRecDepth 100000 in
theorem opens_110 : Opens Try.prog k110 wf110 110 := fun {_ _ _ _ _ _ _ cs _} h => by
  obtain ⟨xs, n, _, _, hl, hxs, hf⟩ := DataW.trod_struct Try.underlying110 h
  have hl2 : cs.length = 2 := hl.trans (by kernel_rfl)
  have hx2 : xs.length = 2 := hxs
  have e3 : Try.prog.cellsOf 3 = 1 := by kernel_rfl
  have e22 : Try.prog.cellsOf 22 = 1 := by kernel_rfl
  match cs, hl2 with
  | [c0, c1], _ =>
    obtain ⟨y0, g0⟩ := field_at (hf 0 _ rfl) e3 rfl (by omega)
    obtain ⟨a0, K0, w0⟩ := (opens_int Try.underlying3) g0
    obtain ⟨y1, g1⟩ := field_at (hf 1 _ rfl) e22 rfl (by omega)
    obtain ⟨a1, K1, w1⟩ := (opens_slice Try.underlying22 (by kernel_rfl) opens_84) g1
    exact ⟨⟨a0, a1⟩, ⟨[c0], [c1], rfl, K0, K1⟩, w0, w1⟩
set_option maxRecDepth 100000 in
theorem opens_77 : Opens Try.prog k77 wf77 77 := fun {_ _ _ _ _ _ _ cs _} h => by
  obtain ⟨xs, n, _, _, hl, hxs, hf⟩ := DataW.trod_struct Try.underlying77 h
  have hl2 : cs.length = 2 := hl.trans (by kernel_rfl)
  have hx2 : xs.length = 2 := hxs
  have e22 : Try.prog.cellsOf 22 = 1 := by kernel_rfl
  have e75 : Try.prog.cellsOf 75 = 1 := by kernel_rfl
  match cs, hl2 with
  | [c0, c1], _ =>
    obtain ⟨y0, g0⟩ := field_at (hf 0 _ rfl) e22 rfl (by omega)
    obtain ⟨a0, K0, w0⟩ := (opens_slice Try.underlying22 (by kernel_rfl) opens_84) g0
    obtain ⟨y1, g1⟩ := field_at (hf 1 _ rfl) e75 rfl (by omega)
    obtain ⟨a1, K1, w1⟩ := (opens_slice Try.underlying75 (by kernel_rfl) opens_110) g1
    exact ⟨⟨a0, a1⟩, ⟨[c0], [c1], rfl, K0, K1⟩, w0, w1⟩
set_option maxRecDepth 100000 in
theorem opens_25 : Opens Try.prog k25 wf25 25 := fun {_ _ _ _ _ _ _ cs _} h => by
  obtain ⟨xs, n, _, _, hl, hxs, hf⟩ := DataW.trod_struct Try.underlying25 h
  have hl2 : cs.length = 4 := hl.trans (by kernel_rfl)
  have hx2 : xs.length = 4 := hxs
  have e3 : Try.prog.cellsOf 3 = 1 := by kernel_rfl
  have e22 : Try.prog.cellsOf 22 = 1 := by kernel_rfl
  have e23 : Try.prog.cellsOf 23 = 1 := by kernel_rfl
  match cs, hl2 with
  | [c0, c1, c2, c3], _ =>
    obtain ⟨y0, g0⟩ := field_at (hf 0 _ rfl) e3 rfl (by omega)
    obtain ⟨a0, K0, w0⟩ := (opens_int Try.underlying3) g0
    obtain ⟨y1, g1⟩ := field_at (hf 1 _ rfl) e3 rfl (by omega)
    obtain ⟨a1, K1, w1⟩ := (opens_int Try.underlying3) g1
    obtain ⟨y2, g2⟩ := field_at (hf 2 _ rfl) e22 rfl (by omega)
    obtain ⟨a2, K2, w2⟩ := (opens_slice Try.underlying22 (by kernel_rfl) opens_84) g2
    obtain ⟨y3, g3⟩ := field_at (hf 3 _ rfl) e23 rfl (by omega)
    obtain ⟨a3, K3, w3⟩ := (opens_slice Try.underlying23 (by kernel_rfl) opens_77) g3
    exact ⟨⟨a0, a1, a2, a3⟩, ⟨[c0], [c1, c2, c3], rfl, K0, ⟨[c1], [c2, c3], rfl, K1, ⟨[c2], [c3], rfl, K2, K3⟩⟩⟩, w0, w1, w2, w3⟩
end Go.Proofs.Ytkebpfpkohehgaa.X
