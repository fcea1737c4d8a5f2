/- What the words' functions compute: both words, signed numbers, shifts (as in XLawsA, with no law). Conditions: those named. -/
import Derived.Test.YtckdgmbmjfhodaaWords
import Derived.Test.YtckdgmbmjfhodaaX19
import Derived.Test.YtckdgmbmjfhodaaX25
import Derived.Test.YtckdgmbmjfhodaaX27
namespace Go.Proofs.Ytckdgmbmjfhodaa.Pure
open Go.RowKit Go.Proofs.Ytckdgmbmjfhodaa.X Go.Proofs.YtckdgmbmjfhodaaW.PrintWords Go.Proofs.Ytckdgmbmjfhodaa.Bits

theorem both_spec (k : Nat) (w a b : Int) (hk : 65 < k) (h0 : 0 ≤ a) (ha : a < 18446744073709551616) (k0 : 0 ≤ b) (hb : b < 18446744073709551616) :
    spec_l1Both.f k w a b = some (decide (word w a ∧ word w b)) := by
  unfold spec_l1Both.f
  rw [goodWord_spec k w a hk h0 ha, goodWord_spec k w b hk k0 hb]
  simp only [Option.bind_some]
  by_cases h : word w a <;> simp [h]
theorem both_impl (w a b : Int) (h0 : 0 ≤ a) (k0 : 0 ≤ b) : impl_areWords.f w a b = some (decide (word w a ∧ word w b)) := by
  unfold impl_areWords.f
  rw [goodWord_impl w a h0, goodWord_impl w b k0]
  simp only [Option.bind_some]
  by_cases h : word w a <;> simp [h]
theorem pow_le63 (n : Nat) (h : n ≤ 63) : (2 : Int) ^ n ≤ 9223372036854775808 := by
  have h2 := Int.ofNat_le.mpr (Nat.pow_le_pow_right (n := 2) (by decide) h)
  rw [Int.natCast_pow] at h2
  exact h2
theorem signed_spec (k : Nat) (w a : Int) (hk : 65 < k) (h : word w a) : spec_l1Signed.f k w a = some (sgn w a) := by
  have h1 := h.1
  have h2 := h.2.1
  have h3 := h.2.2.1
  have h4 := h.2.2.2
  have hlt := word_lt h
  have e1 : wrap64 (w - 1) = w - 1 := wrap64_id _ (by omega) (by omega)
  have e2 : IntKind.u64.wrap (w - 1) = w - 1 := u64_id _ (by omega) (by omega)
  have hp := pow_pos (w - 1).toNat
  have hh := pow_half w h1
  have h63 := pow_le63 (w - 1).toNat (by omega)
  have hb : IntKind.u64.bits = 64 := rfl
  have e3 : shr .u64 a (w - 1) = a / 2 ^ (w - 1).toNat := by unfold shr; rw [hb, Nat.min_eq_left (by omega)]
  have q0 : 0 ≤ a / 2 ^ (w - 1).toNat := Int.ediv_nonneg h3 (by omega)
  have q1 : a / 2 ^ (w - 1).toNat < 2 := Int.ediv_lt_of_lt_mul hp (by omega)
  unfold spec_l1Signed.f
  rw [e1, e2, if_pos (by omega), e3, and_one _ q0 (by omega)]
  unfold sgn
  by_cases hc : a < 2 ^ (w - 1).toNat
  · have q : a / 2 ^ (w - 1).toNat = 0 := Int.ediv_eq_zero_of_lt h3 hc
    rw [q, if_neg (by decide), if_pos hc, wrap64_id a (by omega) (by omega)]
  · have q : a / 2 ^ (w - 1).toNat = 1 := by
      have : 1 ≤ a / 2 ^ (w - 1).toNat := (Int.le_ediv_iff_mul_le hp).mpr (by omega)
      omega
    have hpw := pow_pos w.toNat
    have hple := pow_le w.toNat (by omega)
    have hs := pow_split w h1 h2
    have m1 : (18446744073709551615 : Int) % 2 ^ w.toNat = 2 ^ w.toNat - 1 := by
      have : (18446744073709551615 : Int) = (2 ^ w.toNat - 1) + 2 ^ w.toNat * (2 ^ (64 - w).toNat - 1) := by
        rw [Int.mul_sub, Int.mul_comm (2 ^ w.toNat), hs]; omega
      rw [this, Int.add_mul_emod_self_left, Int.emod_eq_of_lt (by omega) (by omega)]
    have m2 : (18446744073709551615 - (2 ^ w.toNat - 1) : Int) % 2 ^ w.toNat = 0 := by
      have : (18446744073709551615 - (2 ^ w.toNat - 1) : Int) = 2 ^ w.toNat * (2 ^ (64 - w).toNat - 1) := by
        rw [Int.mul_sub, Int.mul_comm (2 ^ w.toNat), hs]; omega
      rw [this, Int.mul_emod_right]
    rw [q, if_pos (by decide), if_neg hc, cut_val k w _ hk (by omega) h2 (by decide) (by decide), m1]
    simp only [Option.bind_some]
    rw [xor_max _ (by omega) (by omega), or_join' _ a w.toNat (by omega) (by omega) m2 (by omega) h3 h4]
    unfold wrap64
    simp only [Option.some.injEq]
    omega
theorem signed_impl (w a : Int) (h : word w a) : impl_signed.f w a = some (sgn w a) := by
  have h1 := h.1
  have h2 := h.2.1
  have h3 := h.2.2.1
  have h4 := h.2.2.2
  have e1 : wrap64 (64 - w) = 64 - w := wrap64_id _ (by omega) (by omega)
  have hb : IntKind.u64.bits = 64 := rfl
  have hb' : IntKind.i64.bits = 64 := rfl
  have hs := pow_split w h1 h2
  have hq := pow_pos (64 - w).toNat
  have hh := pow_half w h1
  have hp := pow_pos (w - 1).toNat
  have m1 : a * 2 ^ (64 - w).toNat < 18446744073709551616 := by
    rw [← hs, Int.mul_comm]; exact Int.mul_lt_mul_of_pos_left h4 hq
  have m0 : 0 ≤ a * 2 ^ (64 - w).toNat := Int.mul_nonneg h3 (by omega)
  have e2 : shl .u64 a (64 - w) = a * 2 ^ (64 - w).toNat := by
    unfold shl; rw [hb, Nat.min_eq_left (by omega)]; exact u64_id _ m0 m1
  have half : (2 : Int) ^ (w - 1).toNat * 2 ^ (64 - w).toNat = 9223372036854775808 := by
    rw [← Int.pow_add, show (w - 1).toNat + (64 - w).toNat = 63 by omega]; decide
  unfold impl_signed.f
  rw [e1, if_pos (by omega), e2]
  unfold shr
  rw [hb', Nat.min_eq_left (by omega)]
  unfold sgn
  by_cases hc : a < 2 ^ (w - 1).toNat
  · have : a * 2 ^ (64 - w).toNat < 9223372036854775808 := by rw [← half]; exact Int.mul_lt_mul_of_pos_right hc hq
    rw [if_pos hc, wrap64_id _ (by omega) (by omega), Int.mul_ediv_cancel _ (by omega)]
  · have : 9223372036854775808 ≤ a * 2 ^ (64 - w).toNat := by rw [← half]; exact Int.mul_le_mul_of_nonneg_right (by omega) (by omega)
    have e3 : wrap64 (a * 2 ^ (64 - w).toNat) = (a - 2 ^ w.toNat) * 2 ^ (64 - w).toNat := by
      rw [Int.sub_mul, Int.mul_comm (2 ^ w.toNat), hs]
      unfold wrap64
      omega
    rw [if_neg hc, e3, Int.mul_ediv_cancel _ (by omega)]
theorem mod_mod (n : Int) (w : Nat) (hw : w ≤ 64) : n % 18446744073709551616 % 2 ^ w = n % 2 ^ w := by
  apply Int.emod_emod_of_dvd
  refine ⟨2 ^ (64 - w), ?_⟩
  rw [← Int.pow_add, show w + (64 - w) = 64 by omega]
  decide
theorem shift_left_loop (w : Int) (h1 : 1 ≤ w) (h2 : w ≤ 64) (d : Nat) : ∀ (k : Nat) (x : Int), 0 ≤ x → x < 18446744073709551616 → d ≤ 64 → d + 67 < k →
    x = x % 2 ^ w.toNat → spec_l1Shift.l0 k w x (d : Int) true = some (x * 2 ^ d % 2 ^ w.toNat) := by
  induction d with
  | zero =>
    intro k x h0 hx hd hk he
    obtain ⟨k, rfl⟩ : ∃ m, k = m + 1 := ⟨k - 1, by omega⟩
    simp only [spec_l1Shift.l0]
    rw [if_neg (by omega)]
    simpa using he
  | succ d ih =>
    intro k x h0 hx hd hk he
    obtain ⟨k, rfl⟩ : ∃ m, k = m + 1 := ⟨k - 1, by omega⟩
    have hr := u64_range (x * 2)
    have hp := pow_pos w.toNat
    have hle := pow_le w.toNat (by omega)
    have r0 := Int.emod_nonneg (IntKind.u64.wrap (x * 2)) (show (2 : Int) ^ w.toNat ≠ 0 by omega)
    have r1 := Int.emod_lt_of_pos (IntKind.u64.wrap (x * 2)) hp
    simp only [spec_l1Shift.l0]
    rw [if_pos (by omega)]
    simp only [if_true]
    rw [cut_val k w _ (by omega) (by omega) h2 hr.1 hr.2]
    simp only [Option.bind_some]
    rw [show ((d + 1 : Nat) : Int) - 1 = (d : Int) by omega, u64_id (d : Int) (by omega) (by omega), ih k _ r0 (by omega) (by omega) (by omega) (Int.emod_emod _ _).symm]
    rw [wrap_u64, mod_mod _ _ (by omega), Int.pow_succ]
    congr 1
    rw [Int.mul_emod, Int.emod_emod, ← Int.mul_emod, Int.mul_assoc, Int.mul_comm 2]
theorem shift_right_loop (w : Int) (d : Nat) : ∀ (k : Nat) (x : Int), d ≤ 64 → d < k →
    spec_l1Shift.l0 k w x (d : Int) false = some (x / 2 ^ d) := by
  induction d with
  | zero =>
    intro k x hd hk
    obtain ⟨k, rfl⟩ : ∃ m, k = m + 1 := ⟨k - 1, by omega⟩
    simp only [spec_l1Shift.l0]
    rw [if_neg (by omega)]
    simp
  | succ d ih =>
    intro k x hd hk
    obtain ⟨k, rfl⟩ : ∃ m, k = m + 1 := ⟨k - 1, by omega⟩
    simp only [spec_l1Shift.l0]
    rw [if_pos (by omega), if_neg (by decide), show ((d + 1 : Nat) : Int) - 1 = (d : Int) by omega, u64_id (d : Int) (by omega) (by omega), ih k _ (by omega) (by omega)]
    rw [Int.pow_succ, Int.mul_comm, Int.ediv_ediv_of_nonneg (by decide)]
/-- What a shift makes of a word. -/
def shifted (w a by_ : Int) (left : Bool) : Int := if by_ ≥ w then 0 else if left = true then a * 2 ^ by_.toNat % 2 ^ w.toNat else a / 2 ^ by_.toNat
theorem shift_spec (k : Nat) (w a b : Int) (left : Bool) (hk : 140 < k) (ha : word w a) (hb : 0 ≤ b) : spec_l1Shift.f k w a b left = some (shifted w a b left) := by
  have h1 := ha.1
  have h2 := ha.2.1
  unfold spec_l1Shift.f shifted
  rw [u64_id w (by omega) (by omega)]
  by_cases hc : b ≥ w
  · rw [if_pos hc, if_pos hc]
  · rw [if_neg hc, if_neg hc]
    obtain ⟨n, rfl⟩ := Int.eq_ofNat_of_zero_le hb
    cases left with
    | true => rw [shift_left_loop w h1 h2 n k a ha.2.2.1 (word_lt ha) (by omega) (by omega) (cut_word w a ha).symm, if_pos rfl, Int.toNat_natCast]
    | false => rw [shift_right_loop w n k a (by omega) (by omega), if_neg (by decide), Int.toNat_natCast]
theorem shift_impl (w a b : Int) (left : Bool) (ha : word w a) (hb : 0 ≤ b) : impl_shift.f w a b left = some (shifted w a b left) := by
  have h1 := ha.1
  have h2 := ha.2.1
  have hbits : IntKind.u64.bits = 64 := rfl
  unfold impl_shift.f shifted
  rw [u64_id w (by omega) (by omega)]
  by_cases hc : b ≥ w
  · rw [if_pos hc, if_pos hc]
  · rw [if_neg hc, if_neg hc]
    cases left with
    | true =>
      rw [if_pos rfl, if_pos hb, mask_f w h1 h2, if_pos rfl]
      simp only [Option.bind_some]
      have hr := u64_range (a * 2 ^ b.toNat)
      unfold shl
      rw [hbits, Nat.min_eq_left (by omega), and_mask _ _ hr.1 hr.2 (by omega), wrap_u64, mod_mod _ _ (by omega)]
    | false =>
      rw [if_neg (by decide), if_pos hb, if_neg (by decide)]
      unfold shr
      rw [hbits, Nat.min_eq_left (by omega)]
end Go.Proofs.Ytckdgmbmjfhodaa.Pure
