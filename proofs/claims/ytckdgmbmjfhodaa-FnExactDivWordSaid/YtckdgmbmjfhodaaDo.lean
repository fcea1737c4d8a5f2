/- What an operator makes of two words: the reference's l2Do and the program's apply come to the same word. Conditions: those named. -/
import Derived.Test.YtckdgmbmjfhodaaWordsB
import Derived.Test.YtckdgmbmjfhodaaX19
import Derived.Test.YtckdgmbmjfhodaaX20
import Derived.Test.YtckdgmbmjfhodaaX26
import Derived.Test.YtckdgmbmjfhodaaX27
import Derived.Test.YtckdgmbmjfhodaaX28
namespace Go.Proofs.Ytckdgmbmjfhodaa.Pure
open Go.RowKit Go.Proofs.Ytckdgmbmjfhodaa.X Go.Proofs.YtckdgmbmjfhodaaW.PrintWords Go.Proofs.Ytckdgmbmjfhodaa.Bits

theorem max_mod (w : Int) (h1 : 1 ≤ w) (h2 : w ≤ 64) : (18446744073709551615 : Int) % 2 ^ w.toNat = 2 ^ w.toNat - 1 := by
  have hp := pow_pos w.toNat
  have hs := pow_split w h1 h2
  have : (18446744073709551615 : Int) = (2 ^ w.toNat - 1) + 2 ^ w.toNat * (2 ^ (64 - w).toNat - 1) := by
    rw [Int.mul_sub, Int.mul_comm (2 ^ w.toNat), hs]; omega
  rw [this, Int.add_mul_emod_self_left, Int.emod_eq_of_lt (by omega) (by omega)]
def divided (w a b : Int) : Int := if b = 0 then 2 ^ w.toNat - 1 else IntKind.u64.wrap (Int.tdiv a b)
def rested (a b : Int) : Int := if b = 0 then a else Int.tmod a b
theorem div_spec (k : Nat) (w a b : Int) (hk : 65 < k) (h0 : 0 ≤ a) (ha : a < 18446744073709551616) (k0 : 0 ≤ b) (hb : b < 18446744073709551616) :
    spec_DivWord.f k w a b = some (if word w a ∧ word w b then (divided w a b, rested a b, true) else (0, 0, false)) := by
  unfold spec_DivWord.f divided rested
  rw [both_spec k w a b hk h0 ha k0 hb]
  simp only [Option.bind_some, decide_eq_true_eq]
  by_cases h : word w a ∧ word w b
  · rw [if_pos h, if_pos h]
    by_cases hz : b = 0
    · rw [if_pos hz, if_pos hz, if_pos hz, cut_val k w _ hk (by have := h.1.1; omega) h.1.2.1 (by decide) (by decide), max_mod w h.1.1 h.1.2.1]; rfl
    · rw [if_neg hz, if_neg hz, if_neg hz]
  · rw [if_neg h, if_neg h]
theorem div_impl (w a b : Int) (h0 : 0 ≤ a) (k0 : 0 ≤ b) :
    impl_DivWord.f w a b = some (if word w a ∧ word w b then (divided w a b, rested a b, true) else (0, 0, false)) := by
  unfold impl_DivWord.f divided rested bits_Div64.f
  rw [both_impl w a b h0 k0]
  simp only [Option.bind_some, decide_eq_true_eq]
  by_cases h : word w a ∧ word w b
  · rw [if_pos h, if_pos h]
    by_cases hz : b = 0
    · rw [if_pos hz, if_pos hz, if_pos hz, mask_f w h.1.1 h.1.2.1]; rfl
    · rw [if_neg hz, if_neg hz, if_neg hz, if_pos ⟨trivial, by omega⟩]; rfl
  · rw [if_neg h, if_neg h]
def ap (w op a b : Int) : Int :=
  if op = 3 then IntKind.u64.wrap (a + b) % 2 ^ w.toNat else if op = 4 then IntKind.u64.wrap (a - b) % 2 ^ w.toNat else if op = 5 then IntKind.u64.wrap (a * b) % 2 ^ w.toNat
  else if op = 6 then divided w a b else if op = 7 then rested a b else if op = 8 ∨ op = 17 then Go.bits .and .u64 a b else if op = 9 ∨ op = 18 then Go.bits .or .u64 a b
  else if op = 10 then Go.bits .xor .u64 a b else if op = 11 then shifted w a b true else if op = 12 then shifted w a b false
  else if op = 14 then (if a = b then 1 else 0) else if op = 15 then (if a < b then 1 else 0) else if op = 16 then (if sgn w a < sgn w b then 1 else 0) else 0
theorem word_mod (w x : Int) (h1 : 1 ≤ w) (h2 : w ≤ 64) : word w (x % 2 ^ w.toNat) :=
  ⟨h1, h2, Int.emod_nonneg _ (by have := pow_pos w.toNat; omega), Int.emod_lt_of_pos _ (pow_pos _)⟩
theorem pow_two (w : Int) (h1 : 1 ≤ w) : (2 : Int) ≤ 2 ^ w.toNat := by
  rw [pow_half w h1]; have := pow_pos (w - 1).toNat; omega
theorem word_bool (w : Int) (h1 : 1 ≤ w) (h2 : w ≤ 64) (p : Prop) [Decidable p] : word w (if p then 1 else 0) := by
  have := pow_two w h1
  by_cases h : p
  · rw [if_pos h]; exact ⟨h1, h2, by omega, by omega⟩
  · rw [if_neg h]; exact ⟨h1, h2, by omega, by omega⟩
theorem word_nat {w a : Int} (h : word w a) : ∃ n : Nat, a = n ∧ n < 2 ^ w.toNat ∧ n < 2 ^ 64 := by
  obtain ⟨n, rfl⟩ := Int.eq_ofNat_of_zero_le h.2.2.1
  have := h.2.2.2
  have h3 := word_lt h
  refine ⟨n, rfl, ?_, by omega⟩
  have e : ((2 ^ w.toNat : Nat) : Int) = 2 ^ w.toNat := by rw [Int.natCast_pow]; rfl
  rw [← e] at this
  omega
theorem nat_word {w : Int} (h1 : 1 ≤ w) (h2 : w ≤ 64) {n : Nat} (h : n < 2 ^ w.toNat) : word w (n : Int) := by
  refine ⟨h1, h2, by omega, ?_⟩
  have e : ((2 ^ w.toNat : Nat) : Int) = 2 ^ w.toNat := by rw [Int.natCast_pow]; rfl
  rw [← e]
  omega
theorem word_and {w a b : Int} (ha : word w a) (hb : word w b) : word w (Go.bits .and .u64 a b) := by
  obtain ⟨n, rfl, h1, h2⟩ := word_nat ha
  obtain ⟨m, rfl, h3, h4⟩ := word_nat hb
  rw [and_u64 n m h2 h4]
  exact nat_word ha.1 ha.2.1 (Nat.and_lt_two_pow _ h3)
theorem word_or {w a b : Int} (ha : word w a) (hb : word w b) : word w (Go.bits .or .u64 a b) := by
  obtain ⟨n, rfl, h1, h2⟩ := word_nat ha
  obtain ⟨m, rfl, h3, h4⟩ := word_nat hb
  rw [or_u64 n m h2 h4]
  exact nat_word ha.1 ha.2.1 (Nat.or_lt_two_pow h1 h3)
theorem word_xor {w a b : Int} (ha : word w a) (hb : word w b) : word w (Go.bits .xor .u64 a b) := by
  obtain ⟨n, rfl, h1, h2⟩ := word_nat ha
  obtain ⟨m, rfl, h3, h4⟩ := word_nat hb
  rw [xor_u64 n m h2 h4]
  exact nat_word ha.1 ha.2.1 (Nat.xor_lt_two_pow h1 h3)
theorem word_divided {w a b : Int} (ha : word w a) (hb : word w b) : word w (divided w a b) := by
  have h1 := ha.2.2.1
  have h2 := ha.2.2.2
  have h3 := hb.2.2.1
  have h4 := word_lt ha
  have h5 := pow_pos w.toNat
  unfold divided
  by_cases hz : b = 0
  · rw [if_pos hz]; exact ⟨ha.1, ha.2.1, by omega, by omega⟩
  · have q0 : 0 ≤ a / b := Int.ediv_nonneg h1 h3
    have q1 : a / b ≤ a := Int.ediv_le_self _ h1
    rw [if_neg hz, Int.tdiv_eq_ediv_of_nonneg h1, u64_id _ q0 (by omega)]
    exact ⟨ha.1, ha.2.1, q0, by omega⟩
theorem word_rested {w a b : Int} (ha : word w a) (hb : word w b) : word w (rested a b) := by
  have h1 := ha.2.2.1
  have h3 := hb.2.2.1
  have h4 := hb.2.2.2
  unfold rested
  by_cases hz : b = 0
  · rw [if_pos hz]; exact ha
  · have q0 : 0 ≤ a % b := Int.emod_nonneg _ hz
    have q1 : a % b < b := Int.emod_lt_of_pos _ (by omega)
    rw [if_neg hz, Int.tmod_eq_emod_of_nonneg h1]
    exact ⟨ha.1, ha.2.1, q0, by omega⟩
theorem word_shifted {w a b : Int} (left : Bool) (ha : word w a) : word w (shifted w a b left) := by
  have h5 := pow_pos w.toNat
  unfold shifted
  by_cases hc : b ≥ w
  · rw [if_pos hc]; exact ⟨ha.1, ha.2.1, by omega, by omega⟩
  · rw [if_neg hc]
    cases left with
    | true => rw [if_pos rfl]; exact word_mod w _ ha.1 ha.2.1
    | false =>
      rw [if_neg (by decide)]
      have q0 : 0 ≤ a / 2 ^ b.toNat := Int.ediv_nonneg ha.2.2.1 (by have := pow_pos b.toNat; omega)
      have q1 : a / 2 ^ b.toNat ≤ a := Int.ediv_le_self _ ha.2.2.1
      exact ⟨ha.1, ha.2.1, q0, by have := ha.2.2.2; omega⟩
theorem op_cases (op : Int) : op = 3 ∨ op = 4 ∨ op = 5 ∨ op = 6 ∨ op = 7 ∨ op = 8 ∨ op = 9 ∨ op = 10 ∨ op = 11 ∨ op = 12 ∨ op = 14 ∨ op = 15 ∨ op = 16 ∨ op = 17 ∨ op = 18 ∨
    (op ≠ 3 ∧ op ≠ 4 ∧ op ≠ 5 ∧ op ≠ 6 ∧ op ≠ 7 ∧ op ≠ 8 ∧ op ≠ 9 ∧ op ≠ 10 ∧ op ≠ 11 ∧ op ≠ 12 ∧ op ≠ 14 ∧ op ≠ 15 ∧ op ≠ 16 ∧ op ≠ 17 ∧ op ≠ 18) := by omega
theorem word_ap {w op a b : Int} (ha : word w a) (hb : word w b) : word w (ap w op a b) := by
  have h1 := ha.1
  have h2 := ha.2.1
  rcases op_cases op with rfl | rfl | rfl | rfl | rfl | rfl | rfl | rfl | rfl | rfl | rfl | rfl | rfl | rfl | rfl | h
  · rw [show ap w 3 a b = IntKind.u64.wrap (a + b) % 2 ^ w.toNat by simp [ap]]; exact word_mod w _ h1 h2
  · rw [show ap w 4 a b = IntKind.u64.wrap (a - b) % 2 ^ w.toNat by simp [ap]]; exact word_mod w _ h1 h2
  · rw [show ap w 5 a b = IntKind.u64.wrap (a * b) % 2 ^ w.toNat by simp [ap]]; exact word_mod w _ h1 h2
  · rw [show ap w 6 a b = divided w a b by simp [ap]]; exact word_divided ha hb
  · rw [show ap w 7 a b = rested a b by simp [ap]]; exact word_rested ha hb
  · rw [show ap w 8 a b = Go.bits .and .u64 a b by simp [ap]]; exact word_and ha hb
  · rw [show ap w 9 a b = Go.bits .or .u64 a b by simp [ap]]; exact word_or ha hb
  · rw [show ap w 10 a b = Go.bits .xor .u64 a b by simp [ap]]; exact word_xor ha hb
  · rw [show ap w 11 a b = shifted w a b true by simp [ap]]; exact word_shifted true ha
  · rw [show ap w 12 a b = shifted w a b false by simp [ap]]; exact word_shifted false ha
  · rw [show ap w 14 a b = (if a = b then 1 else 0) by simp [ap]]; exact word_bool w h1 h2 (a = b)
  · rw [show ap w 15 a b = (if a < b then 1 else 0) by simp [ap]]; exact word_bool w h1 h2 (a < b)
  · rw [show ap w 16 a b = (if sgn w a < sgn w b then 1 else 0) by simp [ap]]; exact word_bool w h1 h2 (sgn w a < sgn w b)
  · rw [show ap w 17 a b = Go.bits .and .u64 a b by simp [ap]]; exact word_and ha hb
  · rw [show ap w 18 a b = Go.bits .or .u64 a b by simp [ap]]; exact word_or ha hb
  · rw [show ap w op a b = 0 by simp [ap, h]]; exact ⟨h1, h2, by omega, pow_pos _⟩
theorem bool_spec (b : Bool) : spec_l2Bool.f b = some (if b = true then 1 else 0) := by
  unfold spec_l2Bool.f; cases b <;> rfl
theorem bool_impl (b : Bool) : impl_truth.f b = some (if b = true then 1 else 0) := by
  unfold impl_truth.f; cases b <;> rfl
theorem do_val (k : Nat) (w op a b : Int) (hk : 145 < k) (ha : word w a) (hb : word w b) : spec_l2Do.f k w op a b = some (ap w op a b) := by
  obtain ⟨k, rfl⟩ : ∃ m, k = m + 2 := ⟨k - 2, by omega⟩
  have h1 := ha.1
  have h2 := ha.2.1
  have c : ∀ (k : Nat) (x : Int), 65 < k → spec_l1Cut.f k w (IntKind.u64.wrap x) = some (IntKind.u64.wrap x % 2 ^ w.toNat) := fun k x hk => cut_val k w _ hk (by omega) h2 (u64_range x).1 (u64_range x).2
  have hd := div_spec (k + 2) w a b (by omega) ha.2.2.1 (word_lt ha) hb.2.2.1 (word_lt hb)
  rw [if_pos ⟨ha, hb⟩] at hd
  unfold spec_l2Do.f ap
  rewrite [hd]
  simp only [Option.bind_some]
  rcases op_cases op with rfl | rfl | rfl | rfl | rfl | rfl | rfl | rfl | rfl | rfl | rfl | rfl | rfl | rfl | rfl | h
  · simp [c (k + 2) _ (by omega)]
  · simp [c (k + 2) _ (by omega)]
  · simp [c (k + 2) _ (by omega)]
  · simp
  · simp
  · simp [spec_l2Do.j0]
  · simp [spec_l2Do.j0, spec_l2Do.j1]
  · simp [spec_l2Do.j0, spec_l2Do.j1]
  · simp [spec_l2Do.j0, spec_l2Do.j1, shift_spec k w a b true (by omega) ha hb.2.2.1]
  · simp [spec_l2Do.j0, spec_l2Do.j1, shift_spec k w a b false (by omega) ha hb.2.2.1]
  · simp [spec_l2Do.j0, spec_l2Do.j1, bool_spec]
  · simp [spec_l2Do.j0, spec_l2Do.j1, bool_spec]
  · simp [spec_l2Do.j0, spec_l2Do.j1, bool_spec, signed_spec k w a (by omega) ha, signed_spec k w b (by omega) hb]
  · simp [spec_l2Do.j0]
  · simp [spec_l2Do.j0, spec_l2Do.j1]
  · simp [spec_l2Do.j0, spec_l2Do.j1, h]
theorem apply_val (k : Nat) (w op a b : Int) (hk : 3 < k) (ha : word w a) (hb : word w b) : impl_apply.f k w op a b = some (ap w op a b) := by
  obtain ⟨k, rfl⟩ : ∃ m, k = m + 3 := ⟨k - 3, by omega⟩
  have h1 := ha.1
  have h2 := ha.2.1
  have hm := mask_f w h1 h2
  have m : ∀ x : Int, word w x → Go.bits .and .u64 x (2 ^ w.toNat - 1) = x := fun x hx => by rw [and_mask x _ hx.2.2.1 (word_lt hx) (by omega), cut_word w x hx]
  have c : ∀ x : Int, Go.bits .and .u64 (IntKind.u64.wrap x) (2 ^ w.toNat - 1) = IntKind.u64.wrap x % 2 ^ w.toNat := fun x => and_mask _ _ (u64_range x).1 (u64_range x).2 (by omega)
  have hd := div_impl w a b ha.2.2.1 hb.2.2.1
  rw [if_pos ⟨ha, hb⟩] at hd
  have m0 : Go.bits .and .u64 0 (2 ^ w.toNat - 1) = 0 := m 0 ⟨h1, h2, by omega, pow_pos _⟩
  unfold impl_apply.f ap
  rcases op_cases op with rfl | rfl | rfl | rfl | rfl | rfl | rfl | rfl | rfl | rfl | rfl | rfl | rfl | rfl | rfl | h
  · simp [hm, c]
  · simp [hm, c]
  · simp [hm, c]
  · simp [hm, hd, m _ (word_divided ha hb)]
  · simp [hm, hd, m _ (word_rested ha hb)]
  · simp [impl_apply.j0, hm, m _ (word_and ha hb)]
  · simp [impl_apply.j0, impl_apply.j1, hm, m _ (word_or ha hb)]
  · simp [impl_apply.j0, impl_apply.j1, hm, m _ (word_xor ha hb)]
  · simp [impl_apply.j0, impl_apply.j1, impl_apply.j2, hm, shift_impl w a b true ha hb.2.2.1, m _ (word_shifted true ha)]
  · simp [impl_apply.j0, impl_apply.j1, impl_apply.j2, hm, shift_impl w a b false ha hb.2.2.1, m _ (word_shifted false ha)]
  · simp [impl_apply.j0, impl_apply.j1, impl_apply.j2, hm, bool_impl, m _ (word_bool w h1 h2 (a = b))]
  · simp [impl_apply.j0, impl_apply.j1, impl_apply.j2, hm, bool_impl, m _ (word_bool w h1 h2 (a < b))]
  · simp [impl_apply.j0, impl_apply.j1, impl_apply.j2, hm, bool_impl, signed_impl w a ha, signed_impl w b hb, m _ (word_bool w h1 h2 (sgn w a < sgn w b))]
  · simp [impl_apply.j0, hm, m _ (word_and ha hb)]
  · simp [impl_apply.j0, impl_apply.j1, hm, m _ (word_or ha hb)]
  · simp [impl_apply.j0, impl_apply.j1, impl_apply.j2, h, hm, m0]
end Go.Proofs.Ytckdgmbmjfhodaa.Pure
