/- The law on DivWord. Conditions: those of the law's own Pure. -/
import Derived.Test.YtckdgmbmjfhodaaDo
import Derived.Test.YtckdgmbmjfhodaaX46
namespace Go.Proofs.Ytckdgmbmjfhodaa.Pure
open Go.RowKit Go.Proofs.Ytckdgmbmjfhodaa.X Go.Proofs.YtckdgmbmjfhodaaW.PrintWords Go.Proofs.Ytckdgmbmjfhodaa.Bits

theorem FnExactDivWord : laws_FnExactDivWord.Pure := by
  intro w a b hw ha hb
  have h1 := wf_u64 ha
  have h2 := wf_u64 hb
  refine ⟨66, ?_⟩
  unfold laws_FnExactDivWord.f
  rw [div_spec 66 w a b (by omega) h1.1 h1.2 h2.1 h2.2, div_impl w a b h1.1 h2.1]
  simp
end Go.Proofs.Ytckdgmbmjfhodaa.Pure
