/- What the functions on words compute: each printed function's value, in terms of remainders and powers of two. Conditions: the numbers are of their kinds. -/
import Derived.Test.YtifapbeoaakaaaaBits
import Derived.Test.YtifapbeoaakaaaaX1
import Derived.Test.YtifapbeoaakaaaaX3
namespace Go.Proofs.Ytifapbeoaakaaaa.Pure
open Go.RowKit Go.Proofs.Ytifapbeoaakaaaa.X Go.Proofs.YtifapbeoaakaaaaW.PrintWords Go.Proofs.Ytifapbeoaakaaaa.Bits

theorem l1In_val (a b c : Int) : spec_l1In.f a b c = some (decide (b ≤ a ∧ a ≤ c)) := by
  unfold spec_l1In.f
  by_cases h : a ≥ b
  · rw [if_pos h]; simp [show b ≤ a from h]
  · rw [if_neg h]; simp [show ¬ b ≤ a from h]
theorem l1Wide_val (a : Int) : spec_l1Wide.f a = some (decide (1 ≤ a ∧ a ≤ 64)) := by
  unfold spec_l1Wide.f
  rw [l1In_val]; rfl
theorem isWide_val (a : Int) : impl_isWide.f a = some (decide (1 ≤ a ∧ a ≤ 64)) := by
  unfold impl_isWide.f
  by_cases h : a ≥ 1
  · rw [if_pos h]; simp [show 1 ≤ a from h]
  · rw [if_neg h]; simp [show ¬ 1 ≤ a from h]
theorem mask_f (w : Int) (h0 : 1 ≤ w) (h1 : w ≤ 64) : impl_mask.f w = some (2 ^ w.toNat - 1) := by
  unfold impl_mask.f
  have e : wrap64 (64 - w) = 64 - w := wrap64_id _ (by omega) (by omega)
  rw [e, if_pos (by omega), mask_val w h0 h1]
theorem cut_loop (w a : Int) (h0 : 0 ≤ a) (ha : a < 18446744073709551616) (hw : w ≤ 64) (d : Nat) :
    ∀ (k i : Nat), (i : Int) + d = w → d < k → spec_l1Cut.l0 k w a (a % 2 ^ i) (i : Int) = some (a % 2 ^ w.toNat) := by
  induction d with
  | zero =>
    intro k i hi hk
    obtain ⟨k, rfl⟩ : ∃ m, k = m + 1 := ⟨k - 1, by omega⟩
    simp only [spec_l1Cut.l0]
    rw [if_neg (by omega), show w.toNat = i by omega]
  | succ d ih =>
    intro k i hi hk
    obtain ⟨k, rfl⟩ : ∃ m, k = m + 1 := ⟨k - 1, by omega⟩
    simp only [spec_l1Cut.l0]
    rw [if_pos (by omega), u64_id (i : Int) (by omega) (by omega), if_pos (by omega), cut_step a i h0 ha (by omega)]
    have e : wrap64 ((i : Int) + 1) = ((i + 1 : Nat) : Int) := by rw [wrap64_id _ (by omega) (by omega)]; omega
    rw [e]
    exact ih k (i + 1) (by omega) (by omega)
theorem cut_val (k : Nat) (w a : Int) (hk : 65 < k) (hw0 : 0 ≤ w) (hw : w ≤ 64) (h0 : 0 ≤ a) (ha : a < 18446744073709551616) :
    spec_l1Cut.f k w a = some (a % 2 ^ w.toNat) := by
  have := cut_loop w a h0 ha hw w.toNat k 0 (by omega) (by omega)
  unfold spec_l1Cut.f
  simpa using this
theorem cut_word (w a : Int) (h : word w a) : a % 2 ^ w.toNat = a := Int.emod_eq_of_lt h.2.2.1 h.2.2.2
theorem word_lt {w a : Int} (h : word w a) : a < 18446744073709551616 := Int.lt_of_lt_of_le h.2.2.2 (pow_le _ (by have := h.1; have := h.2.1; omega))
theorem goodWord_spec (k : Nat) (w a : Int) (hk : 65 < k) (h0 : 0 ≤ a) (ha : a < 18446744073709551616) : spec_GoodWord.f k w a = some (decide (word w a)) := by
  unfold spec_GoodWord.f
  rw [l1Wide_val]
  simp only [Option.bind_some]
  by_cases h : 1 ≤ w ∧ w ≤ 64
  · rw [if_pos (by simpa using h), cut_val k w a hk (by omega) h.2 h0 ha]
    simp only [Option.bind_some, Option.some.injEq]
    rw [Bool.eq_iff_iff]
    simp only [beq_iff_eq, decide_eq_true_eq]
    constructor
    · intro e
      refine ⟨h.1, h.2, h0, ?_⟩
      rw [← e]; exact Int.emod_lt_of_pos _ (pow_pos _)
    · exact cut_word w a
  · rw [if_neg (by simpa using h)]
    have : ¬ word w a := fun e => h ⟨e.1, e.2.1⟩
    simp [this]
theorem goodWord_impl (w a : Int) (h0 : 0 ≤ a) : impl_GoodWord.f w a = some (decide (word w a)) := by
  unfold impl_GoodWord.f
  rw [isWide_val]
  simp only [Option.bind_some]
  by_cases h : 1 ≤ w ∧ w ≤ 64
  · rw [if_pos (by simpa using h), mask_f w h.1 h.2]
    simp only [Option.bind_some, Option.some.injEq]
    rw [Bool.eq_iff_iff]
    simp only [decide_eq_true_eq]
    constructor
    · intro e; exact ⟨h.1, h.2, h0, by omega⟩
    · intro e; have := e.2.2.2; omega
  · rw [if_neg (by simpa using h)]
    have : ¬ word w a := fun e => h ⟨e.1, e.2.1⟩
    simp [this]
end Go.Proofs.Ytifapbeoaakaaaa.Pure
