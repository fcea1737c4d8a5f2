/- The law on IsPlain: the reference's loop and the program's search come to the same. Conditions: those of the law's own Pure. -/
import Derived.Test.YthageckjjbgonaaNodes
import Derived.Test.YthageckjjbgonaaX15
namespace Go.Proofs.Ythageckjjbgonaa.Pure
open Go.RowKit Go.Proofs.Ythageckjjbgonaa.X Go.Proofs.YthageckjjbgonaaW.PrintWords Go.Proofs.YthageckjjbgonaaW.PrintLast Go.Proofs.Ythageckjjbgonaa.Bits

theorem isPlain_spec_loop (t : List Nd) (ht : t.length ≤ 48) (d : Nat) : ∀ (i k : Nat), i + d = t.length → d < k →
    spec_IsPlain.l0 k t (t.length : Int) (i : Int) = some (!((t.drop i).any notPlain), true) := by
  induction d with
  | zero =>
    intro i k hi hk
    obtain ⟨k, rfl⟩ : ∃ m, k = m + 1 := ⟨k - 1, by omega⟩
    simp only [spec_IsPlain.l0]
    rw [if_neg (by omega), List.drop_eq_nil_of_le (by omega)]
    rfl
  | succ d ih =>
    intro i k hi hk
    obtain ⟨k, rfl⟩ : ∃ m, k = m + 1 := ⟨k - 1, by omega⟩
    have hit : i < t.length := by omega
    have e1 : wrap64 ((i : Int) + 1) = ((i + 1 : Nat) : Int) := by rw [wrap64_id _ (by omega) (by omega)]; omega
    have hdrop : t.drop i = t[i] :: t.drop (i + 1) := List.drop_eq_getElem_cons hit
    have hnp : notPlain t[i] = decide (t[i].f0 = 6 ∨ t[i].f0 = 7 ∨ t[i].f0 = 11 ∨ t[i].f0 = 12) := rfl
    simp only [spec_IsPlain.l0]
    rewrite [if_pos (by omega), if_pos (by omega), if_pos (by omega), rd_at hit, hdrop, List.any_cons, hnp]
    by_cases h1 : t[i].f0 = 6
    · simp [h1]
    · by_cases h2 : t[i].f0 = 7
      · simp [h2]
      · by_cases h3 : t[i].f0 = 11
        · simp [h3]
        · by_cases h4 : t[i].f0 = 12
          · simp [h4]
          · rewrite [if_neg h1, if_neg h2, if_neg h3, if_neg h4, e1, ih (i + 1) k (by omega) (by omega)]
            simp [h1, h2, h3, h4]
theorem kindT_len (w v : Int) (t : List Nd) (h : kindT w v t > 0) : t.length ≤ 48 ∧ 1 ≤ t.length ∧ 1 ≤ w ∧ w ≤ 64 ∧ 1 ≤ v ∧ v ≤ 4 := by
  unfold kindT at h
  split at h
  · omega
  · exact absurd h (by decide)
theorem FnExactIsPlain : laws_FnExactIsPlain.Pure := by
  intro w v l _ _ hl
  have hlen := hl.1
  simp only [maxLen] at hlen
  refine ⟨rounds l, ?_⟩
  unfold laws_FnExactIsPlain.f
  rewrite [sz_val l hlen]
  simp only [Option.bind_some]
  by_cases hs : 1048576 < l.length
  · rw [if_pos hs, if_pos (by decide)]
  · have hk : l.length < rounds l := by unfold rounds; omega
    have hk2 : 401 < rounds l := by unfold rounds; omega
    have hok := conv_ok l hl.2
    have hgo : ∀ k, rounds l ≤ k → laws_FnExactIsPlain.j0 k l (l.map conv) false = some true := by
      intro k hkk
      obtain ⟨k, rfl⟩ : ∃ m, k = m + 1 := ⟨k - 1, by omega⟩
      simp only [laws_FnExactIsPlain.j0]
      rewrite [if_neg (by decide), toNodes_val _ l (by omega) (by unfold rounds at hkk; omega)]
      simp only [Option.bind_some]
      rewrite [eqNodes_val _ _ (by simp; omega) (by simp; unfold rounds at hkk; omega)]
      rfl
    rewrite [if_neg hs, if_neg (by omega), toNodes_val _ l (by omega) hk]
    simp only [Option.bind_some]
    unfold spec_IsPlain.f impl_IsPlain.f impl_isPlain.f impl_isPlain_any.f
    rewrite [goodTerm_spec _ w v _ hok (by omega), goodTerm_impl _ w v _ hok (by omega)]
    simp only [Option.bind_some, decide_eq_true_eq]
    by_cases hg : kindT w v (l.map conv) > 0
    · have hloop := isPlain_spec_loop (l.map conv) (kindT_len w v _ hg).1 _ 0 (rounds l) (Nat.zero_add _) (by simpa using hk)
      simp only [Int.natCast_zero, List.drop_zero] at hloop
      rewrite [if_pos hg, if_pos hg, hloop]
      simp only [Option.bind_some]
      rewrite [if_neg (by simp)]
      exact hgo _ (Nat.le_refl _)
    · rewrite [if_neg hg, if_neg hg]
      simp only [Option.bind_some]
      rewrite [if_neg (by simp)]
      exact hgo _ (Nat.le_refl _)
end Go.Proofs.Ythageckjjbgonaa.Pure
