/- The law on CountOf: both sides run through the same values and count those that meet the clauses. Conditions: those of the law's own Pure. -/
import Derived.Test.YtdmngodinbelfaaMeets
import Derived.Test.YtdmngodinbelfaaX16
import Derived.Test.YtdmngodinbelfaaX17
import Derived.Test.YtdmngodinbelfaaX18
namespace Go.Proofs.Ytdmngodinbelfaa.Pure
open Go.RowKit Go.Proofs.Ytdmngodinbelfaa.X Go.Proofs.YtdmngodinbelfaaW.PrintWords Go.Proofs.YtdmngodinbelfaaW.PrintLast Go.Proofs.YtdmngodinbelfaaW.PrintMore Go.Proofs.Ytdmngodinbelfaa.Bits
/-- Bit i of a number, as a truth value. -/
def bitB (x i : Int) : Bool := Go.bits .and .i64 (shr .i64 x i) 1 == 1
def bitsFrom (x : Int) (i : Nat) : Nat → List Bool
  | 0 => []
  | m + 1 => bitB x (i : Int) :: bitsFrom x (i + 1) m
theorem bitsFrom_len (x : Int) (m : Nat) : ∀ i, (bitsFrom x i m).length = m := by
  induction m with
  | zero => intro i; rfl
  | succ m ih => intro i; simp [bitsFrom, ih]
theorem spec_bits (n : Nat) (hn : n ≤ 10) (l : List (List Int)) (acc x : Int) (d : Nat) : ∀ (i k : Nat) (out : List Bool), i + d = n → out.length = i →
    spec_CountOf.l1 (k + d) acc x out (i : Int) (n : Int) l = spec_CountOf.l1 k acc x (out ++ bitsFrom x i d) (n : Int) (n : Int) l := by
  induction d with
  | zero =>
    intro i k out hi ho
    obtain rfl : i = n := by omega
    rewrite [bitsFrom, List.append_nil]
    exact Eq.refl _
  | succ d ih =>
    intro i k out hi ho
    have e1 : wrap64 ((i : Int) + 1) = ((i + 1 : Nat) : Int) := by rw [wrap64_id _ (by omega) (by omega)]; omega
    have e2 : IntKind.u64.wrap (i : Int) = (i : Int) := u64_id _ (by omega) (by omega)
    have hst : spec_CountOf.l1 (k + d + 1) acc x out (i : Int) (n : Int) l = spec_CountOf.l1 (k + d) acc x (out ++ [bitB x (i : Int)]) ((i + 1 : Nat) : Int) (n : Int) l := by
      rewrite [spec_CountOf.l1, if_pos (by omega), e2, if_pos (by omega), if_pos (by omega), e1]
      exact Eq.refl _
    have he : k + (d + 1) = k + d + 1 := by omega
    rewrite [he, hst, ih (i + 1) k _ (by omega) (by simp; omega), List.append_assoc]
    exact Eq.refl _
theorem impl_bits (n : Nat) (hn : n ≤ 10) (l : List (List Int)) (acc x p y : Int) (d : Nat) : ∀ (i k : Nat) (out : List Bool), i + d = n → out.length = i →
    impl_CountOf.l1 (k + d) acc x out p y (n : Int) (i : Int) (n : Int) l = impl_CountOf.l1 k acc x (out ++ bitsFrom x i d) p y (n : Int) (n : Int) (n : Int) l := by
  induction d with
  | zero =>
    intro i k out hi ho
    obtain rfl : i = n := by omega
    rewrite [bitsFrom, List.append_nil]
    exact Eq.refl _
  | succ d ih =>
    intro i k out hi ho
    have e1 : wrap64 ((i : Int) + 1) = ((i + 1 : Nat) : Int) := by rw [wrap64_id _ (by omega) (by omega)]; omega
    have hst : impl_CountOf.l1 (k + d + 1) acc x out p y (n : Int) (i : Int) (n : Int) l = impl_CountOf.l1 (k + d) acc x (out ++ [bitB x (i : Int)]) p y (n : Int) ((i + 1 : Nat) : Int) (n : Int) l := by
      rewrite [impl_CountOf.l1, if_pos (by omega), if_pos (by omega), if_pos (by omega), e1]
      exact Eq.refl _
    have he : k + (d + 1) = k + d + 1 := by omega
    rewrite [he, hst, ih (i + 1) k _ (by omega) (by simp; omega), List.append_assoc]
    exact Eq.refl _
/-- How many of the numbers from x on meet. -/
def cnt (m : Int → Bool) (x : Int) : Nat → Int
  | 0 => 0
  | d + 1 => (if m x = true then 1 else 0) + cnt m (x + 1) d
theorem cnt_range (m : Int → Bool) (d : Nat) : ∀ x, 0 ≤ cnt m x d ∧ cnt m x d ≤ d := by
  induction d with
  | zero => intro x; simp [cnt]
  | succ d ih =>
    intro x
    have := ih (x + 1)
    rw [cnt]
    split <;> omega
theorem shl_pow (n : Nat) (hn : n ≤ 10) : shl .i64 1 (n : Int) = ((2 ^ n : Nat) : Int) := by
  have h : ∀ m : Fin 11, shl .i64 1 ((m : Nat) : Int) = ((2 ^ (m : Nat) : Nat) : Int) := by decide
  exact h ⟨n, by omega⟩
theorem pow_small (n : Nat) (hn : n ≤ 10) : 2 ^ n ≤ 1024 := Nat.pow_le_pow_right (by decide) hn
theorem spec_count (n : Nat) (hn : n ≤ 10) (l : List (List Int)) (hc : cnfB (n : Int) l = true) (d : Nat) : ∀ (x k : Nat) (acc : Int), x + d = 2 ^ n → 0 ≤ acc → acc ≤ (x : Int) → 20 * d + 16000 < k →
    spec_CountOf.l0 k acc (x : Int) (n : Int) l = some (acc + cnt (fun y => meetsB (bitsFrom y 0 n) l) (x : Int) d, true) := by
  have hp := pow_small n hn
  induction d with
  | zero =>
    intro x k acc hx h0 h1 hk
    obtain ⟨k, rfl⟩ : ∃ m, k = m + 1 := ⟨k - 1, by omega⟩
    rewrite [spec_CountOf.l0, u64_id _ (by omega) (by omega), if_pos (by omega), shl_pow n hn, if_neg (by omega), cnt, Int.add_zero]
    exact Eq.refl _
  | succ d ih =>
    intro x k acc hx h0 h1 hk
    obtain ⟨k, rfl⟩ : ∃ m, k = (m + 1) + n + 1 := ⟨k - 2 - n, by omega⟩
    have e1 : wrap64 ((x : Int) + 1) = ((x + 1 : Nat) : Int) := by rw [wrap64_id _ (by omega) (by omega)]; omega
    have e2 : wrap64 (acc + 1) = acc + 1 := wrap64_id _ (by omega) (by omega)
    have hb := spec_bits n hn l acc (x : Int) n 0 (k + 1) [] (by omega) rfl
    rw [Int.natCast_zero, List.nil_append] at hb
    have hm := meets_spec (n : Int) l (bitsFrom (x : Int) 0 n) k (by omega)
    rw [show meetsR (n : Int) l (bitsFrom (x : Int) 0 n) = (meetsB (bitsFrom (x : Int) 0 n) l, true) from by unfold meetsR; rw [if_pos ⟨hc, by rw [bitsFrom_len]⟩]] at hm
    have e3 : ((x + 1 : Nat) : Int) = (x : Int) + 1 := by omega
    rewrite [spec_CountOf.l0, u64_id _ (by omega) (by omega), if_pos (by omega), shl_pow n hn, if_pos (by omega), hb, spec_CountOf.l1, if_neg (by omega), hm, Option.bind_some, cnt]
    cases hq : meetsB (bitsFrom (x : Int) 0 n) l with
    | true =>
      rewrite [if_pos rfl, e1, e2, ih (x + 1) k (acc + 1) (by omega) (by omega) (by omega) (by omega), if_pos rfl, e3, Int.add_assoc]
      exact Eq.refl _
    | false =>
      rewrite [if_neg (by decide), e1, ih (x + 1) k acc (by omega) (by omega) (by omega) (by omega), if_neg (by decide), e3, Int.zero_add]
      exact Eq.refl _
theorem impl_count (n : Nat) (hn : n ≤ 10) (l : List (List Int)) (hc : cnfB (n : Int) l = true) (d : Nat) : ∀ (x k : Nat) (acc : Int), x + d = 2 ^ n → 0 ≤ acc → acc ≤ (x : Int) → 20 * d + 16000 < k →
    impl_CountOf.l0 k acc ((2 ^ n : Nat) : Int) (x : Int) (n : Int) l = some (acc + cnt (fun y => meetsB (bitsFrom y 0 n) l) (x : Int) d, true) := by
  have hp := pow_small n hn
  induction d with
  | zero =>
    intro x k acc hx h0 h1 hk
    obtain ⟨k, rfl⟩ : ∃ m, k = m + 1 := ⟨k - 1, by omega⟩
    rewrite [impl_CountOf.l0, if_neg (by omega), cnt, Int.add_zero]
    exact Eq.refl _
  | succ d ih =>
    intro x k acc hx h0 h1 hk
    obtain ⟨k, rfl⟩ : ∃ m, k = (m + 1) + n + 1 := ⟨k - 2 - n, by omega⟩
    have e1 : wrap64 ((x : Int) + 1) = ((x + 1 : Nat) : Int) := by rw [wrap64_id _ (by omega) (by omega)]; omega
    have e2 : wrap64 (acc + 1) = acc + 1 := wrap64_id _ (by omega) (by omega)
    have hb := impl_bits n hn l acc (x : Int) ((2 ^ n : Nat) : Int) (x : Int) n 0 (k + 1) [] (by omega) rfl
    rw [Int.natCast_zero, List.nil_append] at hb
    have hm := meets_impl (n : Int) (bitsFrom (x : Int) 0 n) l (by rw [bitsFrom_len]) hc
    have e3 : ((x + 1 : Nat) : Int) = (x : Int) + 1 := by omega
    rewrite [impl_CountOf.l0, if_pos (by omega), hb, impl_CountOf.l1, if_neg (by omega), hm, Option.bind_some, cnt]
    cases hq : meetsB (bitsFrom (x : Int) 0 n) l with
    | true =>
      rewrite [if_pos rfl, e1, e2, ih (x + 1) k (acc + 1) (by omega) (by omega) (by omega) (by omega), if_pos rfl, e3, Int.add_assoc]
      exact Eq.refl _
    | false =>
      rewrite [if_neg (by decide), e1, ih (x + 1) k acc (by omega) (by omega) (by omega) (by omega), if_neg (by decide), e3, Int.zero_add]
      exact Eq.refl _
theorem count_both (n : Int) (l : List (List Int)) (k : Nat) (hk : 40000 < k) : ∃ r, spec_CountOf.f k n l = some r ∧ impl_CountOf.f k n l = some r := by
  obtain ⟨k, rfl⟩ : ∃ m, k = m + 1 := ⟨k - 1, by omega⟩
  unfold spec_CountOf.f impl_CountOf.f
  rewrite [specCnf_val n l _ (by omega), implCnf_val]
  simp only [Option.bind_some]
  have h1 : ∀ b, b = true → spec_CountOf.j0 (k + 1) b n l = some (0, false) ∧ impl_CountOf.j0 (k + 1) b n l = some (0, false) := by
    rintro b rfl
    simp only [spec_CountOf.j0, impl_CountOf.j0]
    exact ⟨rfl, rfl⟩
  by_cases h : cnfB n l = true
  · rewrite [if_pos h, if_pos h]
    by_cases h2 : n > 10
    · exact ⟨_, h1 _ (decide_eq_true h2)⟩
    · obtain ⟨h0, _, _, _⟩ := cnfB_is h
      obtain ⟨m, rfl⟩ := Int.eq_ofNat_of_zero_le h0
      have hm : m ≤ 10 := by omega
      have hp := pow_small m hm
      have hpp : 0 < 2 ^ m := Nat.pow_pos (by decide)
      have a := spec_count m hm l h (2 ^ m) 0 k 0 (by omega) (by omega) (by omega) (by omega)
      have b := impl_count m hm l h (2 ^ m) 0 k 0 (by omega) (by omega) (by omega) (by omega)
      refine ⟨(0 + cnt (fun y => meetsB (bitsFrom y 0 m) l) ((0 : Nat) : Int) (2 ^ m), true), ?_, ?_⟩
      · simp only [spec_CountOf.j0]
        rewrite [if_neg (by simpa using h2)]
        exact a
      · simp only [impl_CountOf.j0]
        rewrite [if_neg (by simpa using h2), if_pos (by omega), shl_pow m hm]
        exact b
  · rewrite [if_neg h, if_neg h]
    exact ⟨_, h1 _ rfl⟩
theorem FnExactCountOf : laws_FnExactCountOf.Pure := by
  intro n l _ hl
  have hll := hl.1
  simp only [maxLen] at hll
  have hb : ∀ a ∈ l, a.length ≤ 9223372036854775807 := fun a ha => by have := (hl.2 a ha).1; simpa [maxLen] using this
  by_cases hs : small l
  · refine ⟨l.length + total l + 50000 + 1, ?_⟩
    have hs' : l.length + total l ≤ 1048576 := hs
    unfold laws_FnExactCountOf.f
    obtain ⟨r, h1, h2⟩ := count_both n l (l.length + total l + 50000 + 1) (by omega)
    rewrite [szCnf_val n l hll hb _ (fun _ => by omega) hs]
    simp only [Option.bind_some]
    rewrite [if_neg (by omega), toCnf_val _ n l hs (by omega)]
    simp only [Option.bind_some]
    rewrite [h1, h2]
    simp only [Option.bind_some]
    rewrite [if_pos trivial]
    have hbb : (r.2 != r.2) = false := by simp
    rewrite [hbb]
    simp only [laws_FnExactCountOf.j0, Bool.false_eq_true, if_false]
    rewrite [toCnf_val _ n l hs (by omega)]
    simp only [Option.bind_some]
    rewrite [eqCnf_val _ n l hs (by omega)]
    rfl
  · obtain ⟨k, hk⟩ := szCnf_big n l hll hb hs
    refine ⟨k, ?_⟩
    unfold laws_FnExactCountOf.f
    rewrite [hk k (Nat.le_refl _)]
    simp only [Option.bind_some]
    rewrite [if_pos (by decide)]; rfl
end Go.Proofs.Ytdmngodinbelfaa.Pure
