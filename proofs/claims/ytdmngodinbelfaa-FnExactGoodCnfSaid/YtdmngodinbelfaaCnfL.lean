/- The law on GoodCnf. Conditions: those of the law's own Pure. -/
import Derived.Test.YtdmngodinbelfaaCnf
import Derived.Test.YtdmngodinbelfaaX9
namespace Go.Proofs.Ytdmngodinbelfaa.Pure
open Go.RowKit Go.Proofs.Ytdmngodinbelfaa.X Go.Proofs.YtdmngodinbelfaaW.PrintWords Go.Proofs.YtdmngodinbelfaaW.PrintLast Go.Proofs.YtdmngodinbelfaaW.PrintMore Go.Proofs.Ytdmngodinbelfaa.Bits
theorem FnExactGoodCnf : laws_FnExactGoodCnf.Pure := by
  intro n l _ hl
  have hll := hl.1
  simp only [maxLen] at hll
  have hb : ∀ a ∈ l, a.length ≤ 9223372036854775807 := fun a ha => by have := (hl.2 a ha).1; simpa [maxLen] using this
  by_cases hs : small l
  · refine ⟨l.length + total l + 2000, ?_⟩
    have hs' : l.length + total l ≤ 1048576 := hs
    unfold laws_FnExactGoodCnf.f
    rewrite [szCnf_val n l hll hb _ (fun _ => by omega) hs]
    simp only [Option.bind_some]
    rewrite [if_neg (by omega), toCnf_val _ n l hs (by omega)]
    simp only [Option.bind_some]
    rewrite [specCnf_val n l _ (by omega), implCnf_val]
    simp only [Option.bind_some]
    rewrite [if_neg (by simp), eqCnf_val _ n l hs (by omega)]
    rfl
  · obtain ⟨k, hk⟩ := szCnf_big n l hll hb hs
    refine ⟨k, ?_⟩
    unfold laws_FnExactGoodCnf.f
    rewrite [hk k (Nat.le_refl _)]
    simp only [Option.bind_some]
    rewrite [if_pos (by decide)]; rfl
end Go.Proofs.Ytdmngodinbelfaa.Pure
