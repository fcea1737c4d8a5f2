/- Each Go function as a Lean function, with the proof that the call comes to just its answer; or a law's row out of its pure statement. Conditions: the arguments are of their kinds. Written by this session's program wip/xp/xp.sh. -/
import Derived.Test.YtdmngodinbelfaaX0
import Derived.Test.YtdmngodinbelfaaOpen
namespace Go.Proofs.Ytdmngodinbelfaa.X
open Go.RowKit Go.Proofs.YtdmngodinbelfaaW.PrintWords Go.Proofs.YtdmngodinbelfaaW.PrintLast Go.Proofs.YtdmngodinbelfaaW.PrintMore
attribute [local go_sem] max2_int min2_int max_two min_two max_three min_three max_four min_four   -- for this text's walks alone
set_option linter.unusedVariables false
set_option linter.unusedSimpArgs false

open Go.Proofs.Ytdmngodinbelfaa.Open
def wf24 (x : S24) : Prop := (Lit.int .i64 x.f0).wf = true ∧ ((x.f1).length ≤ maxLen ∧ ∀ y ∈ x.f1, ((y).length ≤ maxLen ∧ ∀ y_ ∈ y, (Lit.int .i64 y_).wf = true))
set_option maxRecDepth 100000 in
theorem opens_24 : Opens Try.prog k24 wf24 24 := fun {_ _ _ _ _ _ _ cs _} h => by
  obtain ⟨xs, n, _, _, hl, hxs, hf⟩ := DataW.trod_struct Try.underlying24 h
  have hl2 : cs.length = 2 := hl.trans (by kernel_rfl)
  have hx2 : xs.length = 2 := hxs
  have e3 : Try.prog.cellsOf 3 = 1 := by kernel_rfl
  have e22 : Try.prog.cellsOf 22 = 1 := by kernel_rfl
  match cs, hl2 with
  | [c0, c1], _ =>
    obtain ⟨y0, g0⟩ := field_at (hf 0 _ rfl) e3 rfl (by omega)
    obtain ⟨a0, K0, w0⟩ := (opens_int Try.underlying3) g0
    obtain ⟨y1, g1⟩ := field_at (hf 1 _ rfl) e22 rfl (by omega)
    obtain ⟨a1, K1, w1⟩ := (opens_slice Try.underlying22 (by kernel_rfl) (opens_slice Try.underlying39 (by kernel_rfl) (opens_int Try.underlying3))) g1
    exact ⟨⟨a0, a1⟩, ⟨[c0], [c1], rfl, K0, K1⟩, w0, w1⟩
end Go.Proofs.Ytdmngodinbelfaa.X
