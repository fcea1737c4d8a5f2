/- Each Go function as a Lean function, with the proof that the call comes to just its answer; or a law's row out of its pure statement. Conditions: the arguments are of their kinds. Written by this session's program wip/xp/xp.sh. -/
import Derived.Test.YtgdmdaalmoioeaaX0
import Derived.Test.YtgdmdaalmoioeaaOpen
namespace Go.Proofs.Ytgdmdaalmoioeaa.X
open Go.RowKit Go.Proofs.YtgdmdaalmoioeaaW.PrintWords Go.Proofs.YtgdmdaalmoioeaaW.PrintLast Go.Proofs.YtgdmdaalmoioeaaW.PrintMore
attribute [local go_sem] max2_int min2_int max_two min_two max_three min_three max_four min_four   -- for this text's walks alone
set_option linter.unusedVariables false
set_option linter.unusedSimpArgs false

open Go.Proofs.Ytgdmdaalmoioeaa.Open
def wf67 (x : S67) : Prop := (Lit.int .i64 x.f0).wf = true ∧ (Lit.int .i64 x.f1).wf = true ∧ (Lit.int .i64 x.f2).wf = true
def wf25 (x : S25) : Prop := (Lit.int .i64 x.f0).wf = true ∧ ((x.f1).length ≤ maxLen ∧ ∀ y ∈ x.f1, wf67 y) ∧ ((x.f2).length ≤ maxLen ∧ ∀ y ∈ x.f2, (Lit.int .i64 y).wf = true)
set_option maxRecDepth 100000 in
theorem opens_67 : Opens Try.prog k67 wf67 67 := fun {_ _ _ _ _ _ _ cs _} h => by
  obtain ⟨xs, n, _, _, hl, hxs, hf⟩ := DataW.trod_struct Try.underlying67 h
  have hl2 : cs.length = 3 := hl.trans (by kernel_rfl)
  have hx2 : xs.length = 3 := hxs
  have e3 : Try.prog.cellsOf 3 = 1 := by kernel_rfl
  match cs, hl2 with
  | [c0, c1, c2], _ =>
    obtain ⟨y0, g0⟩ := field_at (hf 0 _ rfl) e3 rfl (by omega)
    obtain ⟨a0, K0, w0⟩ := (opens_int Try.underlying3) g0
    obtain ⟨y1, g1⟩ := field_at (hf 1 _ rfl) e3 rfl (by omega)
    obtain ⟨a1, K1, w1⟩ := (opens_int Try.underlying3) g1
    obtain ⟨y2, g2⟩ := field_at (hf 2 _ rfl) e3 rfl (by omega)
    obtain ⟨a2, K2, w2⟩ := (opens_int Try.underlying3) g2
    exact ⟨⟨a0, a1, a2⟩, ⟨[c0], [c1, c2], rfl, K0, ⟨[c1], [c2], rfl, K1, K2⟩⟩, w0, w1, w2⟩
set_option maxRecDepth 100000 in
theorem opens_25 : Opens Try.prog k25 wf25 25 := fun {_ _ _ _ _ _ _ cs _} h => by
  obtain ⟨xs, n, _, _, hl, hxs, hf⟩ := DataW.trod_struct Try.underlying25 h
  have hl2 : cs.length = 3 := hl.trans (by kernel_rfl)
  have hx2 : xs.length = 3 := hxs
  have e3 : Try.prog.cellsOf 3 = 1 := by kernel_rfl
  have e22 : Try.prog.cellsOf 22 = 1 := by kernel_rfl
  have e23 : Try.prog.cellsOf 23 = 1 := by kernel_rfl
  match cs, hl2 with
  | [c0, c1, c2], _ =>
    obtain ⟨y0, g0⟩ := field_at (hf 0 _ rfl) e3 rfl (by omega)
    obtain ⟨a0, K0, w0⟩ := (opens_int Try.underlying3) g0
    obtain ⟨y1, g1⟩ := field_at (hf 1 _ rfl) e22 rfl (by omega)
    obtain ⟨a1, K1, w1⟩ := (opens_slice Try.underlying22 (by kernel_rfl) opens_67) g1
    obtain ⟨y2, g2⟩ := field_at (hf 2 _ rfl) e23 rfl (by omega)
    obtain ⟨a2, K2, w2⟩ := (opens_slice Try.underlying23 (by kernel_rfl) (opens_int Try.underlying3)) g2
    exact ⟨⟨a0, a1, a2⟩, ⟨[c0], [c1, c2], rfl, K0, ⟨[c1], [c2], rfl, K1, K2⟩⟩, w0, w1, w2⟩
end Go.Proofs.Ytgdmdaalmoioeaa.X
