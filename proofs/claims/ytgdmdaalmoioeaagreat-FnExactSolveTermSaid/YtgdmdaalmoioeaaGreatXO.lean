/- Each Go function as a Lean function, with the proof that the call comes to just its answer; or a law's row out of its pure statement. Conditions: the arguments are of their kinds. Written by this session's program wip/xp/xp.sh. -/
import Derived.Test.YtgdmdaalmoioeaaGreatX0
import Derived.Test.YtgdmdaalmoioeaaGreatOpen
namespace Go.Proofs.YtgdmdaalmoioeaaGreat.X
open Go.RowKit Go.Proofs.YtgdmdaalmoioeaaGreatW.PrintWords Go.Proofs.YtgdmdaalmoioeaaGreatW.PrintLast Go.Proofs.YtgdmdaalmoioeaaGreatW.PrintMore
attribute [local go_sem] max2_int min2_int max_two min_two max_three min_three max_four min_four
set_option linter.unusedVariables false
set_option linter.unusedSimpArgs false
open Go.Proofs.YtgdmdaalmoioeaaGreat.Open
def wf55 (x : S55) : Prop := (Lit.int .i64 x.f0).wf = true ∧ (Lit.int .u64 x.f1).wf = true
set_option maxRecDepth 100000 in
theorem opens_55 : Opens Tryz.prog k55 wf55 55 := fun {_ _ _ _ _ _ _ cs _} h => by
  obtain ⟨xs, n, _, _, hl, hxs, hf⟩ := DataW.trod_struct Tryz.underlying55 h
  have hl2 : cs.length = 2 := hl.trans (by kernel_rfl)
  have hx2 : xs.length = 2 := hxs
  have e3 : Tryz.prog.cellsOf 3 = 1 := by kernel_rfl
  have e51 : Tryz.prog.cellsOf 51 = 1 := by kernel_rfl
  match cs, hl2 with
  | [c0, c1], _ =>
    obtain ⟨y0, g0⟩ := field_at (hf 0 _ rfl) e3 rfl (by omega)
    obtain ⟨a0, K0, w0⟩ := (opens_int Tryz.underlying3) g0
    obtain ⟨y1, g1⟩ := field_at (hf 1 _ rfl) e51 rfl (by omega)
    obtain ⟨a1, K1, w1⟩ := (opens_int Tryz.underlying51) g1
    exact ⟨⟨a0, a1⟩, ⟨[c0], [c1], rfl, K0, K1⟩, w0, w1⟩
end Go.Proofs.YtgdmdaalmoioeaaGreat.X
