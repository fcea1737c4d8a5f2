/- The law on Meets. Conditions: those of the law's own Pure. -/
import Derived.Test.YtdmngodinbelfaaMeets
import Derived.Test.YtdmngodinbelfaaListsFB
import Derived.Test.YtdmngodinbelfaaX15
namespace Go.Proofs.Ytdmngodinbelfaa.Pure
open Go.RowKit Go.Proofs.Ytdmngodinbelfaa.X Go.Proofs.YtdmngodinbelfaaW.PrintWords Go.Proofs.YtdmngodinbelfaaW.PrintLast Go.Proofs.YtdmngodinbelfaaW.PrintMore Go.Proofs.Ytdmngodinbelfaa.Bits
theorem FnExactMeets : laws_FnExactMeets.Pure := by
  intro n l vs _ hl hv
  have hll := hl.1
  have hvl := hv.1
  simp only [maxLen] at hll hvl
  have hb : ∀ a ∈ l, a.length ≤ 9223372036854775807 := fun a ha => by have := (hl.2 a ha).1; simpa [maxLen] using this
  by_cases hs : small l
  · refine ⟨l.length + total l + vs.length + 20000 + 1, ?_⟩
    have hs' : l.length + total l ≤ 1048576 := hs
    unfold laws_FnExactMeets.f
    by_cases hbv : (vs.length : Int) > 1048576
    · rw [if_pos hbv]
    · rewrite [if_neg hbv, szCnf_val n l hll hb _ (fun _ => by omega) hs]
      simp only [Option.bind_some]
      rewrite [if_neg (by omega), toCnf_val _ n l hs (by omega)]
      simp only [Option.bind_some]
      rewrite [toBool_val _ vs (by omega) (by omega)]
      simp only [Option.bind_some]
      rewrite [meets_spec n l vs _ (by omega), Meets_impl]
      simp only [Option.bind_some]
      rewrite [if_neg (by simp)]
      have hbb : ((meetsR n l vs).2 != (meetsR n l vs).2) = false := by simp
      rewrite [hbb]
      simp only [laws_FnExactMeets.j0, Bool.false_eq_true, if_false]
      rewrite [toCnf_val _ n l hs (by omega)]
      simp only [Option.bind_some]
      rewrite [eqCnf_val _ n l hs (by omega)]
      simp only [Option.bind_some, if_true]
      rewrite [toBool_val _ vs (by omega) (by omega)]
      simp only [Option.bind_some]
      rewrite [eqBool_val _ vs (by omega) (by omega)]
      rfl
  · obtain ⟨k, hk⟩ := szCnf_big n l hll hb hs
    refine ⟨k, ?_⟩
    unfold laws_FnExactMeets.f
    by_cases hbv : (vs.length : Int) > 1048576
    · rw [if_pos hbv]
    · rewrite [if_neg hbv, hk k (Nat.le_refl _)]
      simp only [Option.bind_some]
      rewrite [if_pos (by decide)]; rfl
end Go.Proofs.Ytdmngodinbelfaa.Pure
