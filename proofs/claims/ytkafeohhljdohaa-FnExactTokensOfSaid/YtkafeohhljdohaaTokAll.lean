/- Bits of 64-bit words as the model tells them: and, or, xor, shifts and masks as remainders and powers of two. No condition. The token at a text's front: both sides give the same length. Conditions: a text of 1 to 800 bytes. The law on TokensOf: both sides cut the text alike; marks and compares of tokens come to plain lists. Conditions: those of the law's own Pure. -/
import Derived.Test.YtkafeohhljdohaaWMore
import Derived.Laws.BitsLemmas
import Derived.Test.YtkafeohhljdohaaXO
import Derived.Test.YtkafeohhljdohaaX1
import Derived.Test.YtkafeohhljdohaaX8
import Derived.Test.YtkafeohhljdohaaX11
import Derived.Test.YtkafeohhljdohaaX13
import Derived.Test.YtkafeohhljdohaaX14
import Derived.Test.YtkafeohhljdohaaX2
import Derived.Test.YtkafeohhljdohaaX3
namespace Go.Proofs.Ytkafeohhljdohaa.Bits
open Go.RowKit Go.Proofs.YtkafeohhljdohaaW.PrintWords

theorem wrap_u64 (n : Int) : IntKind.u64.wrap n = n % 18446744073709551616 := by simp [IntKind.wrap, IntKind.bits, IntKind.signed]
theorem wraps_u64 (n : Int) (h₀ : 0 ≤ n) (h₁ : n < 2 ^ 64) : IntKind.u64.wrap n = n := by rw [wrap_u64]; omega
theorem u64_id (n : Int) (h₀ : 0 ≤ n) (h₁ : n < 18446744073709551616) : IntKind.u64.wrap n = n := by rw [wrap_u64]; omega
theorem u64_range (n : Int) : 0 ≤ IntKind.u64.wrap n ∧ IntKind.u64.wrap n < 18446744073709551616 := by rw [wrap_u64]; omega
theorem and_u64 (a b : Nat) (ha : a < 2 ^ 64) (hb : b < 2 ^ 64) : Go.bits .and .u64 a b = ((a &&& b : Nat) : Int) := (bits_nat .u64 64 (by decide) wraps_u64 a b ha hb).1
theorem or_u64 (a b : Nat) (ha : a < 2 ^ 64) (hb : b < 2 ^ 64) : Go.bits .or .u64 a b = ((a ||| b : Nat) : Int) := (bits_nat .u64 64 (by decide) wraps_u64 a b ha hb).2
theorem xor_nat (k : IntKind) (j : Nat) (hj : j ≤ k.bits) (hk : ∀ n : Int, 0 ≤ n → n < 2 ^ j → k.wrap n = n) (a b : Nat) (ha : a < 2 ^ j) (hb : b < 2 ^ j) :
    Go.bits .xor k a b = ((a ^^^ b : Nat) : Int) := by
  have hp : 2 ^ j ≤ 2 ^ k.bits := Nat.pow_le_pow_right (by decide) hj
  have ha' : a % 2 ^ k.bits = a := Nat.mod_eq_of_lt (Nat.lt_of_lt_of_le ha hp)
  have hb' : b % 2 ^ k.bits = b := Nat.mod_eq_of_lt (Nat.lt_of_lt_of_le hb hp)
  show k.wrap ((BitVec.ofInt k.bits (a : Int) ^^^ BitVec.ofInt k.bits (b : Int)).toNat : Int) = _
  rw [BitVec.ofInt_natCast, BitVec.ofInt_natCast, BitVec.toNat_xor, BitVec.toNat_ofNat, BitVec.toNat_ofNat, ha', hb']
  have h := Int.ofNat_lt.mpr (Nat.xor_lt_two_pow ha hb)
  rw [Int.natCast_pow] at h
  exact hk _ (Int.natCast_nonneg _) h
theorem xor_u64 (a b : Nat) (ha : a < 2 ^ 64) (hb : b < 2 ^ 64) : Go.bits .xor .u64 a b = ((a ^^^ b : Nat) : Int) := xor_nat .u64 64 (by decide) wraps_u64 a b ha hb
theorem bits_range (op : BinOp) (a b : Int) : 0 ≤ Go.bits op .u64 a b ∧ Go.bits op .u64 a b < 18446744073709551616 := by
  unfold Go.bits; exact u64_range _
theorem wf_i64 {a : Int} (h : (Lit.int .i64 a).wf = true) : -9223372036854775808 ≤ a ∧ a ≤ 9223372036854775807 := by
  simpa [Lit.wf, IntKind.min, IntKind.max, IntKind.signed, IntKind.bits] using h
theorem wf_u64 {a : Int} (h : (Lit.int .u64 a).wf = true) : 0 ≤ a ∧ a < 18446744073709551616 := by
  have : 0 ≤ a ∧ a ≤ 18446744073709551615 := by
    simpa [Lit.wf, IntKind.min, IntKind.max, IntKind.signed, IntKind.bits] using h
  omega
theorem wrap64_id (n : Int) (h0 : -9223372036854775808 ≤ n) (h1 : n ≤ 9223372036854775807) : wrap64 n = n := by unfold wrap64; omega

theorem pow_le (n : Nat) (h : n ≤ 64) : (2 : Int) ^ n ≤ 18446744073709551616 := by
  have h2 := Int.ofNat_le.mpr (Nat.pow_le_pow_right (n := 2) (by decide) h)
  rw [Int.natCast_pow] at h2
  exact h2
theorem pow_pos (n : Nat) : (0 : Int) < 2 ^ n := Int.pow_pos (by decide)

theorem shl_one (k : Nat) (h : k < 64) : shl .u64 1 (k : Int) = ((2 ^ k : Nat) : Int) := by
  have hb : IntKind.u64.bits = 64 := rfl
  unfold shl
  rw [hb, Int.toNat_natCast, Nat.min_eq_left (by omega), Int.one_mul, wraps_u64]
  · simp
  · exact Int.le_of_lt (Int.pow_pos (by decide))
  · exact_mod_cast Nat.pow_lt_pow_right (by decide) h
theorem mod_or_and (a k : Nat) : (a % 2 ^ k) ||| (a &&& 2 ^ k) = a % 2 ^ (k + 1) := by
  apply Nat.eq_of_testBit_eq
  intro i
  simp only [Nat.testBit_or, Nat.testBit_mod_two_pow, Nat.testBit_and, Nat.testBit_two_pow]
  by_cases h : i < k
  · have h2 : ¬ k = i := by omega
    have h3 : i < k + 1 := by omega
    simp [h, h2, h3]
  · by_cases h2 : k = i
    · subst h2; simp
    · have h3 : ¬ i < k + 1 := by omega
      simp [h, h2, h3]
/-- One round of the lower bits, bit by bit. -/
theorem cut_step (a : Int) (k : Nat) (h0 : 0 ≤ a) (ha : a < 18446744073709551616) (hk : k < 64) :
    Go.bits .or .u64 (a % 2 ^ k) (Go.bits .and .u64 a (shl .u64 1 (k : Int))) = a % 2 ^ (k + 1) := by
  obtain ⟨n, rfl⟩ := Int.eq_ofNat_of_zero_le h0
  have hn : n < 2 ^ 64 := by omega
  have e1 : ((n : Int) % 2 ^ k) = ((n % 2 ^ k : Nat) : Int) := by simp
  have e2 : ((n : Int) % 2 ^ (k + 1)) = ((n % 2 ^ (k + 1) : Nat) : Int) := by simp
  rw [e1, e2, shl_one k hk, and_u64 n _ hn (Nat.pow_lt_pow_right (by decide) hk), or_u64 _ _ (Nat.lt_of_le_of_lt (Nat.mod_le _ _) hn) (Nat.and_lt_two_pow _ (Nat.pow_lt_pow_right (by decide) hk)), mod_or_and]
theorem mask_val (w : Int) (h0 : 1 ≤ w) (h1 : w ≤ 64) : shr .u64 18446744073709551615 (64 - w) = 2 ^ w.toNat - 1 := by
  obtain ⟨n, rfl⟩ := Int.eq_ofNat_of_zero_le (show 0 ≤ w by omega)
  have hb : IntKind.u64.bits = 64 := rfl
  unfold shr
  rw [hb, Int.toNat_natCast, Nat.min_eq_left (by omega)]
  have e : (64 - (n : Int)).toNat = 64 - n := by omega
  rw [e]
  have hn : n ≤ 64 := by omega
  have hp : 0 < n := by omega
  have h2 : 2 ^ (64 - n) * 2 ^ n = 2 ^ 64 := by rw [← Nat.pow_add]; congr 1; omega
  have hx : 0 < 2 ^ (64 - n) := Nat.two_pow_pos _
  have hy : 0 < 2 ^ n := Nat.two_pow_pos _
  have h3 : (18446744073709551615 : Nat) / 2 ^ (64 - n) = 2 ^ n - 1 := by
    rw [Nat.div_eq_iff hx]
    have h4 : (2 ^ n - 1) * 2 ^ (64 - n) = 2 ^ 64 - 2 ^ (64 - n) := by rw [Nat.sub_mul, Nat.mul_comm, h2]; omega
    have h5 : 2 ^ (64 - n) ≤ 2 ^ 64 := Nat.pow_le_pow_right (by decide) (by omega)
    rw [h4]
    omega
  have h6 : (18446744073709551615 : Int) / 2 ^ (64 - n) = (((18446744073709551615 : Nat) / 2 ^ (64 - n) : Nat) : Int) := by simp
  rw [h6, h3, Int.natCast_sub hy]
  simp
theorem and_mask (a : Int) (n : Nat) (h0 : 0 ≤ a) (ha : a < 18446744073709551616) (hn : n ≤ 64) : Go.bits .and .u64 a (2 ^ n - 1) = a % 2 ^ n :=
  bits_mask .u64 64 (by decide) wraps_u64 n hn a h0 ha
/-- The lowest bit. -/
theorem and_one (a : Int) (h0 : 0 ≤ a) (ha : a < 18446744073709551616) : Go.bits .and .u64 a 1 = a % 2 := by
  have := and_mask a 1 h0 ha (by decide)
  simpa using this
/-- The complement. -/
theorem xor_max (a : Int) (h0 : 0 ≤ a) (ha : a < 18446744073709551616) : Go.bits .xor .u64 18446744073709551615 a = 18446744073709551615 - a := by
  obtain ⟨n, rfl⟩ := Int.eq_ofNat_of_zero_le h0
  have hn : n < 2 ^ 64 := by omega
  have := xor_u64 18446744073709551615 n (by decide) hn
  rw [show ((18446744073709551615 : Nat) : Int) = 18446744073709551615 from rfl] at this
  rw [this]
  have h2 : (18446744073709551615 : Nat) ^^^ n = 18446744073709551615 - n := by
    have e1 : (BitVec.allOnes 64 ^^^ BitVec.ofNat 64 n).toNat = 18446744073709551615 ^^^ n := by
      rw [BitVec.toNat_xor, BitVec.toNat_allOnes, BitVec.toNat_ofNat, Nat.mod_eq_of_lt hn]
    have e2 : (BitVec.allOnes 64 ^^^ BitVec.ofNat 64 n) = ~~~ BitVec.ofNat 64 n := BitVec.allOnes_xor
    rw [← e1, e2, BitVec.toNat_not, BitVec.toNat_ofNat, Nat.mod_eq_of_lt hn]
  rw [h2]
  omega
/-- A number below 2^i beside a multiple of 2^i. -/
theorem or_join (x y : Int) (i : Nat) (hi : i ≤ 64) (hx0 : 0 ≤ x) (hx : x % 2 ^ i = 0) (hx1 : x < 18446744073709551616) (hy0 : 0 ≤ y) (hy : y < 2 ^ i) : Go.bits .or .u64 x y = x + y :=
  bits_join .u64 64 (by decide) wraps_u64 i x y hx0 hx hx1 hy0 hy (by have := pow_le i hi; omega)
theorem or_comm (x y : Int) : Go.bits .or .u64 x y = Go.bits .or .u64 y x := by
  unfold Go.bits; simp only [BitVec.or_comm]
theorem or_join' (x y : Int) (i : Nat) (hi : i ≤ 64) (hx0 : 0 ≤ x) (hx : x % 2 ^ i = 0) (hx1 : x < 18446744073709551616) (hy0 : 0 ≤ y) (hy : y < 2 ^ i) : Go.bits .or .u64 y x = y + x := by
  rw [or_comm, or_join x y i hi hx0 hx hx1 hy0 hy, Int.add_comm]
/-- The words of a width. -/
def word (w a : Int) : Prop := 1 ≤ w ∧ w ≤ 64 ∧ 0 ≤ a ∧ a < 2 ^ w.toNat
instance (w a : Int) : Decidable (word w a) := by unfold word; infer_instance
theorem pow_split (w : Int) (h0 : 1 ≤ w) (h1 : w ≤ 64) : (2 : Int) ^ (64 - w).toNat * 2 ^ w.toNat = 18446744073709551616 := by
  rw [← Int.pow_add, show (64 - w).toNat + w.toNat = 64 by omega]; decide
theorem pow_half (w : Int) (h0 : 1 ≤ w) : (2 : Int) ^ w.toNat = 2 * 2 ^ (w - 1).toNat := by
  rw [show w.toNat = (w - 1).toNat + 1 by omega, Int.pow_succ]; omega
/-- The two's complement value. -/
def sgn (w a : Int) : Int := if a < 2 ^ (w - 1).toNat then a else a - 2 ^ w.toNat
end Go.Proofs.Ytkafeohhljdohaa.Bits

namespace Go.Proofs.Ytkafeohhljdohaa.Pure
open Go.RowKit Go.Proofs.Ytkafeohhljdohaa.X Go.Proofs.YtkafeohhljdohaaW.PrintWords Go.Proofs.YtkafeohhljdohaaW.PrintLast Go.Proofs.YtkafeohhljdohaaW.PrintMore Go.Proofs.Ytkafeohhljdohaa.Bits
theorem bytes_list (s : ByteArray) : s.toList = s.data.toList := by
  obtain ⟨⟨l⟩⟩ := s
  rw [show (ByteArray.mk { toList := l }) = ByteArray.mk l.toArray from rfl, ByteArray.toList_mk]
theorem mk_list (l : List UInt8) : (⟨l.toArray⟩ : ByteArray).toList = l := ByteArray.toList_mk l
/-- The reference's signs, and the program's. -/
def SS : List (List UInt8) := [[43], [45], [42], [47], [37], [38], [124], [94], [60, 60], [62, 62], [126], [61, 61], [60], [60, 45], [38, 38], [124, 124], [33]]
def SI : List (List UInt8) := [[43], [45], [42], [47], [37], [38], [124], [94], [60, 60], [62, 62], [], [61, 61], [60], [60, 45], [38, 38], [124, 124]]
theorem ss_si (s : List UInt8) : s ∈ SS ↔ (s ∈ SI ∧ s ≠ []) ∨ s = [126] ∨ s = [33] := by
  constructor
  · intro h
    have hd : ∀ x ∈ SS, (x ∈ SI ∧ x ≠ []) ∨ x = [126] ∨ x = [33] := by decide
    exact hd s h
  · rintro (⟨h, h0⟩ | rfl | rfl)
    · have hd : ∀ x ∈ SI, x ≠ [] → x ∈ SS := by decide
      exact hd s h h0
    · decide
    · decide
theorem dig_is (x : Int) : spec_l3Digit.f x = some (digB x) := by
  unfold spec_l3Digit.f digB
  by_cases h : x ≥ 48
  · rw [if_pos h]; congr 1; exact decide_eq_decide.mpr (by omega)
  · rw [if_neg h, decide_eq_false (by omega)]
theorem let_is (x : Int) : spec_l3Letter.f x = some (letB x) := by
  unfold spec_l3Letter.f letB
  by_cases h : x ≥ 97
  · rw [if_pos h]; congr 1; exact decide_eq_decide.mpr (by omega)
  · rw [if_neg h, decide_eq_false (by omega)]
theorem runF_le (p : Int → Bool) (a : ByteArray) : ∀ (d i : Nat), i + d = a.size → i ≤ runF p a d i ∧ runF p a d i ≤ a.size
  | 0, i, h => by rw [runF]; omega
  | d + 1, i, h => by
    rw [runF]
    split
    · have := runF_le p a d (i + 1) (by omega); omega
    · omega
theorem l0_run (a : ByteArray) (ha : a.size ≤ 1000) (d : Nat) : ∀ (i k : Nat), i + d = a.size → d < k → ∃ q, k ≤ q + d + 1 ∧ spec_l3Long.l0 k a (i : Int) = spec_l3Long.j1 q a ((runF digB a d i : Nat) : Int) := by
  induction d with
  | zero =>
    intro i k hi hk
    obtain ⟨k, rfl⟩ : ∃ m, k = m + 1 := ⟨k - 1, by omega⟩
    exact ⟨k, by omega, by rw [spec_l3Long.l0, if_neg (by omega), runF]⟩
  | succ d ih =>
    intro i k hi hk
    obtain ⟨k, rfl⟩ : ∃ m, k = m + 1 := ⟨k - 1, by omega⟩
    have e1 : wrap64 ((i : Int) + 1) = ((i + 1 : Nat) : Int) := by rw [wrap64_id _ (by omega) (by omega)]; omega
    rw [spec_l3Long.l0, if_pos (by omega), if_pos (by omega), dig_is, Option.bind_some, runF, e1]
    by_cases hp : digB (bt a i) = true
    · rw [if_pos hp, if_pos hp]
      obtain ⟨q, h1, h2⟩ := ih (i + 1) k (by omega) (by omega)
      exact ⟨q, by omega, h2⟩
    · rw [if_neg hp, if_neg hp]
      exact ⟨k, by omega, rfl⟩
theorem l1_run (a : ByteArray) (ha : a.size ≤ 1000) (d : Nat) : ∀ (i k : Nat), i + d = a.size → d < k → ∃ q, k ≤ q + d + 1 ∧ spec_l3Long.l1 k a (i : Int) = spec_l3Long.j3 q a ((runF letB a d i : Nat) : Int) := by
  induction d with
  | zero =>
    intro i k hi hk
    obtain ⟨k, rfl⟩ : ∃ m, k = m + 1 := ⟨k - 1, by omega⟩
    exact ⟨k, by omega, by rw [spec_l3Long.l1, if_neg (by omega), runF]⟩
  | succ d ih =>
    intro i k hi hk
    obtain ⟨k, rfl⟩ : ∃ m, k = m + 1 := ⟨k - 1, by omega⟩
    have e1 : wrap64 ((i : Int) + 1) = ((i + 1 : Nat) : Int) := by rw [wrap64_id _ (by omega) (by omega)]; omega
    rw [spec_l3Long.l1, if_pos (by omega), if_pos (by omega), let_is, Option.bind_some, runF, e1]
    by_cases hp : letB (bt a i) = true
    · rw [if_pos hp, if_pos hp]
      obtain ⟨q, h1, h2⟩ := ih (i + 1) k (by omega) (by omega)
      exact ⟨q, by omega, h2⟩
    · rw [if_neg hp, if_neg hp]
      exact ⟨k, by omega, rfl⟩
theorem sign_step (k : Nat) (a : ByteArray) (n op : Int) (y : List Int) (m j : Int) (l : List UInt8) (hop : op ≤ 19) (h0 : 0 ≤ op) (hs : spec_l3Sign.f op = some ⟨l.toArray⟩) (hn : 0 ≤ n) (hn2 : n ≤ (a.size : Int)) :
    spec_l3Long.l3 (k + 1) a n op y m j = if (a.extract 0 n.toNat).toList = l then some n else spec_l3Long.l3 k a n (op + 1) y m j := by
  rw [spec_l3Long.l3, if_pos hop, hs, Option.bind_some, if_pos hn, if_pos hn2, mk_list, wrap64_id (op + 1) (by omega) (by omega)]
  by_cases h : (a.extract 0 n.toNat).toList = l
  · rw [if_pos h, if_pos h.symm]
  · rw [if_neg h, if_neg (fun e => h e.symm)]
theorem signs_is (k : Nat) (a : ByteArray) (n : Int) (y : List Int) (m j : Int) (hn : 0 ≤ n) (hn2 : n ≤ (a.size : Int)) :
    spec_l3Long.l3 (k + 18) a n 3 y m j = if (a.extract 0 n.toNat).toList ∈ SS then some n else spec_l3Long.l2 k a y m (wrap64 (j + 1)) := by
  rw [show (spec_l3Long.l3 (k + 18) a n 3 y m j) = _ from sign_step (k + 17) a n 3 y m j [43] (by decide) (by decide) rfl hn hn2]
  by_cases h3 : (a.extract 0 n.toNat).toList = [43]
  · rw [if_pos h3, if_pos (by rw [h3]; decide)]
  rw [if_neg h3, show ((3 : Int) + 1) = 4 from rfl]
  rw [show (spec_l3Long.l3 (k + 17) a n 4 y m j) = _ from sign_step (k + 16) a n 4 y m j [45] (by decide) (by decide) rfl hn hn2]
  by_cases h4 : (a.extract 0 n.toNat).toList = [45]
  · rw [if_pos h4, if_pos (by rw [h4]; decide)]
  rw [if_neg h4, show ((4 : Int) + 1) = 5 from rfl]
  rw [show (spec_l3Long.l3 (k + 16) a n 5 y m j) = _ from sign_step (k + 15) a n 5 y m j [42] (by decide) (by decide) rfl hn hn2]
  by_cases h5 : (a.extract 0 n.toNat).toList = [42]
  · rw [if_pos h5, if_pos (by rw [h5]; decide)]
  rw [if_neg h5, show ((5 : Int) + 1) = 6 from rfl]
  rw [show (spec_l3Long.l3 (k + 15) a n 6 y m j) = _ from sign_step (k + 14) a n 6 y m j [47] (by decide) (by decide) rfl hn hn2]
  by_cases h6 : (a.extract 0 n.toNat).toList = [47]
  · rw [if_pos h6, if_pos (by rw [h6]; decide)]
  rw [if_neg h6, show ((6 : Int) + 1) = 7 from rfl]
  rw [show (spec_l3Long.l3 (k + 14) a n 7 y m j) = _ from sign_step (k + 13) a n 7 y m j [37] (by decide) (by decide) rfl hn hn2]
  by_cases h7 : (a.extract 0 n.toNat).toList = [37]
  · rw [if_pos h7, if_pos (by rw [h7]; decide)]
  rw [if_neg h7, show ((7 : Int) + 1) = 8 from rfl]
  rw [show (spec_l3Long.l3 (k + 13) a n 8 y m j) = _ from sign_step (k + 12) a n 8 y m j [38] (by decide) (by decide) rfl hn hn2]
  by_cases h8 : (a.extract 0 n.toNat).toList = [38]
  · rw [if_pos h8, if_pos (by rw [h8]; decide)]
  rw [if_neg h8, show ((8 : Int) + 1) = 9 from rfl]
  rw [show (spec_l3Long.l3 (k + 12) a n 9 y m j) = _ from sign_step (k + 11) a n 9 y m j [124] (by decide) (by decide) rfl hn hn2]
  by_cases h9 : (a.extract 0 n.toNat).toList = [124]
  · rw [if_pos h9, if_pos (by rw [h9]; decide)]
  rw [if_neg h9, show ((9 : Int) + 1) = 10 from rfl]
  rw [show (spec_l3Long.l3 (k + 11) a n 10 y m j) = _ from sign_step (k + 10) a n 10 y m j [94] (by decide) (by decide) rfl hn hn2]
  by_cases h10 : (a.extract 0 n.toNat).toList = [94]
  · rw [if_pos h10, if_pos (by rw [h10]; decide)]
  rw [if_neg h10, show ((10 : Int) + 1) = 11 from rfl]
  rw [show (spec_l3Long.l3 (k + 10) a n 11 y m j) = _ from sign_step (k + 9) a n 11 y m j [60, 60] (by decide) (by decide) rfl hn hn2]
  by_cases h11 : (a.extract 0 n.toNat).toList = [60, 60]
  · rw [if_pos h11, if_pos (by rw [h11]; decide)]
  rw [if_neg h11, show ((11 : Int) + 1) = 12 from rfl]
  rw [show (spec_l3Long.l3 (k + 9) a n 12 y m j) = _ from sign_step (k + 8) a n 12 y m j [62, 62] (by decide) (by decide) rfl hn hn2]
  by_cases h12 : (a.extract 0 n.toNat).toList = [62, 62]
  · rw [if_pos h12, if_pos (by rw [h12]; decide)]
  rw [if_neg h12, show ((12 : Int) + 1) = 13 from rfl]
  rw [show (spec_l3Long.l3 (k + 8) a n 13 y m j) = _ from sign_step (k + 7) a n 13 y m j [126] (by decide) (by decide) rfl hn hn2]
  by_cases h13 : (a.extract 0 n.toNat).toList = [126]
  · rw [if_pos h13, if_pos (by rw [h13]; decide)]
  rw [if_neg h13, show ((13 : Int) + 1) = 14 from rfl]
  rw [show (spec_l3Long.l3 (k + 7) a n 14 y m j) = _ from sign_step (k + 6) a n 14 y m j [61, 61] (by decide) (by decide) rfl hn hn2]
  by_cases h14 : (a.extract 0 n.toNat).toList = [61, 61]
  · rw [if_pos h14, if_pos (by rw [h14]; decide)]
  rw [if_neg h14, show ((14 : Int) + 1) = 15 from rfl]
  rw [show (spec_l3Long.l3 (k + 6) a n 15 y m j) = _ from sign_step (k + 5) a n 15 y m j [60] (by decide) (by decide) rfl hn hn2]
  by_cases h15 : (a.extract 0 n.toNat).toList = [60]
  · rw [if_pos h15, if_pos (by rw [h15]; decide)]
  rw [if_neg h15, show ((15 : Int) + 1) = 16 from rfl]
  rw [show (spec_l3Long.l3 (k + 5) a n 16 y m j) = _ from sign_step (k + 4) a n 16 y m j [60, 45] (by decide) (by decide) rfl hn hn2]
  by_cases h16 : (a.extract 0 n.toNat).toList = [60, 45]
  · rw [if_pos h16, if_pos (by rw [h16]; decide)]
  rw [if_neg h16, show ((16 : Int) + 1) = 17 from rfl]
  rw [show (spec_l3Long.l3 (k + 4) a n 17 y m j) = _ from sign_step (k + 3) a n 17 y m j [38, 38] (by decide) (by decide) rfl hn hn2]
  by_cases h17 : (a.extract 0 n.toNat).toList = [38, 38]
  · rw [if_pos h17, if_pos (by rw [h17]; decide)]
  rw [if_neg h17, show ((17 : Int) + 1) = 18 from rfl]
  rw [show (spec_l3Long.l3 (k + 3) a n 18 y m j) = _ from sign_step (k + 2) a n 18 y m j [124, 124] (by decide) (by decide) rfl hn hn2]
  by_cases h18 : (a.extract 0 n.toNat).toList = [124, 124]
  · rw [if_pos h18, if_pos (by rw [h18]; decide)]
  rw [if_neg h18, show ((18 : Int) + 1) = 19 from rfl]
  rw [show (spec_l3Long.l3 (k + 2) a n 19 y m j) = _ from sign_step (k + 1) a n 19 y m j [33] (by decide) (by decide) rfl hn hn2]
  by_cases h19 : (a.extract 0 n.toNat).toList = [33]
  · rw [if_pos h19, if_pos (by rw [h19]; decide)]
  rw [if_neg h19, show ((19 : Int) + 1) = 20 from rfl]
  rw [spec_l3Long.l3, if_neg (by decide), if_neg]
  intro h
  unfold SS at h
  simp only [List.mem_cons, List.not_mem_nil, or_false] at h
  rcases h with h | h | h | h | h | h | h | h | h | h | h | h | h | h | h | h | h
  · exact h3 h
  · exact h4 h
  · exact h5 h
  · exact h6 h
  · exact h7 h
  · exact h8 h
  · exact h9 h
  · exact h10 h
  · exact h11 h
  · exact h12 h
  · exact h13 h
  · exact h14 h
  · exact h15 h
  · exact h16 h
  · exact h17 h
  · exact h18 h
  · exact h19 h
theorem signs_val : impl_signs.f = some (SI.map fun l => (⟨l.toArray⟩ : ByteArray)) := rfl
theorem idxS_loop (s : ByteArray) (l : List ByteArray) (hl : l.length ≤ 1000) (d : Nat) : ∀ (i k : Nat), i + d = l.length → d < k → ∃ r : Int, slices_Index_string.l0 k l s (l.length : Int) (i : Int) = some r ∧ r < 1000 ∧ (0 ≤ r ↔ s.toList ∈ (l.drop i).map (fun x => x.toList)) := by
  induction d with
  | zero =>
    intro i k hi hk
    obtain ⟨k, rfl⟩ : ∃ m, k = m + 1 := ⟨k - 1, by omega⟩
    refine ⟨-1, by rw [slices_Index_string.l0, if_neg (by omega)], by decide, ?_⟩
    rw [List.drop_eq_nil_of_le (by omega)]
    exact ⟨fun h => absurd h (by decide), fun h => by cases h⟩
  | succ d ih =>
    intro i k hi hk
    obtain ⟨k, rfl⟩ : ∃ m, k = m + 1 := ⟨k - 1, by omega⟩
    have hit : i < l.length := by omega
    have e1 : wrap64 ((i : Int) + 1) = ((i + 1 : Nat) : Int) := by rw [wrap64_id _ (by omega) (by omega)]; omega
    have hd : l.drop i = l[i] :: l.drop (i + 1) := List.drop_eq_getElem_cons hit
    have hr : rdOf ByteArray.empty l (i : Int) = l[i] := by unfold rdOf; rw [Int.toNat_natCast, List.getD_eq_getElem?_getD, List.getElem?_eq_getElem hit]; rfl
    rw [slices_Index_string.l0, if_pos (by omega), if_pos (by omega), if_pos (by omega), hr, e1, hd, List.map_cons]
    by_cases hx : s.toList = l[i].toList
    · rw [if_pos hx]
      refine ⟨_, rfl, by omega, ⟨fun _ => by rw [hx]; exact List.mem_cons_self, fun _ => by omega⟩⟩
    · rw [if_neg hx]
      obtain ⟨r, h1, h2, h3⟩ := ih (i + 1) k (by omega) (by omega)
      refine ⟨r, h1, h2, h3.trans ⟨fun h => List.mem_cons_of_mem _ h, fun h => (List.mem_cons.1 h).resolve_left hx⟩⟩
theorem opOf_val (s : ByteArray) (k : Nat) (hk : 20 < k) : ∃ t : Int, impl_opOf.f k s = some t ∧ (t > 0 ↔ s.toList ∈ SI ∧ s.toList ≠ []) := by
  obtain ⟨r, h1, h2, h3⟩ := idxS_loop s (SI.map fun l => (⟨l.toArray⟩ : ByteArray)) (by decide) 16 0 k rfl (by omega)
  rw [List.drop_zero, List.map_map, show ((fun x : ByteArray => x.toList) ∘ fun l : List UInt8 => (⟨l.toArray⟩ : ByteArray)) = id from funext fun l => mk_list l, List.map_id] at h3
  unfold impl_opOf.f slices_Index_string.f
  rw [signs_val, Option.bind_some, show (0 : Int) = ((0 : Nat) : Int) from rfl, h1, Option.bind_some]
  by_cases h0 : s.toList = ([] : List UInt8)
  · rw [if_pos h0]
    exact ⟨0, rfl, ⟨fun h => absurd h (by decide), fun h => absurd h0 h.2⟩⟩
  · rw [if_neg h0]
    by_cases hr : r < 0
    · rw [show ((0 : Nat) : Int) = 0 from rfl, if_pos hr]
      exact ⟨0, rfl, ⟨fun h => absurd h (by decide), fun h => by have := h3.2 h.1; omega⟩⟩
    · rw [show ((0 : Nat) : Int) = 0 from rfl, if_neg hr, wrap64_id _ (by omega) (by omega)]
      exact ⟨_, rfl, ⟨fun _ => ⟨h3.1 (by omega), h0⟩, fun _ => by omega⟩⟩
theorem ext_list (a : ByteArray) (n : Nat) : (a.extract 0 n).toList = a.data.toList.take n := by
  rw [bytes_list, ByteArray.data_extract, Array.toList_extract]
  simp [List.extract]
theorem bt_head (a : ByteArray) (c : UInt8) (t : List UInt8) (h : a.data.toList = c :: t) : bt a 0 = (c.toNat : Int) := by
  have hs : 0 < a.size := by
    have : a.data.toList.length = a.size := rfl
    rw [h] at this
    simp only [List.length_cons] at this
    omega
  rw [← bt_at a 0 hs]
  have : a[0]'hs = c := by
    rw [ByteArray.getElem_eq_getElem_data, ← Array.getElem_toList]
    simp only [h, List.getElem_cons_zero]
  exact congrArg (fun x : UInt8 => (x.toNat : Int)) this
/-- The length of the token at the front. -/
def tokV (a : ByteArray) : Int := if tokN a > 0 then tokN a else if 2 ≤ a.size ∧ a.data.toList.take 2 ∈ SS then 2 else if bt a 0 = 40 ∨ bt a 0 = 41 ∨ a.data.toList.take 1 ∈ SS then 1 else 0
theorem long_val (a : ByteArray) (h1 : 1 ≤ a.size) (h2 : a.size ≤ 800) (k : Nat) (hk : 2 * a.size + 100 < k) : spec_l3Long.f k a = some (tokV a) := by
  unfold spec_l3Long.f
  obtain ⟨q, hq, e1⟩ := l0_run a (by omega) a.size 0 k (by omega) (by omega)
  rw [show (0 : Int) = ((0 : Nat) : Int) from rfl, e1]
  obtain ⟨q, rfl⟩ : ∃ m, q = m + 1 := ⟨q - 1, by omega⟩
  obtain ⟨D, hD⟩ : ∃ D, runF digB a a.size 0 = D := ⟨_, rfl⟩
  obtain ⟨L, hL⟩ : ∃ L, runF letB a a.size 0 = L := ⟨_, rfl⟩
  have hDL : D > 0 → L = 0 := by
    rw [← hD, ← hL]
    obtain ⟨d, hd⟩ : ∃ d, a.size = d + 1 := ⟨a.size - 1, by omega⟩
    rw [hd, runF, runF]
    intro h
    by_cases hp : digB (bt a ((0 : Nat) : Int)) = true
    · have := of_decide_eq_true hp
      rw [if_neg (by unfold letB; rw [decide_eq_true_iff]; omega)]
    · rw [if_neg hp] at h; omega
  have hN : tokN a = if D > 0 then (D : Int) else (L : Int) := by
    unfold tokN
    rw [hD, hL]
    by_cases h : D > 0
    · have := hDL h
      rw [if_pos h, if_neg (by omega)]
    · rw [if_neg h]
      split
      · rfl
      · omega
  rw [hD, spec_l3Long.j1]
  unfold tokV
  by_cases hd : D > 0
  · rw [if_pos (by omega), hN, if_pos hd, if_pos (by omega)]
  rw [if_neg (by omega), hN, if_neg hd]
  obtain ⟨q2, hq2, e2⟩ := l1_run a (by omega) a.size 0 q (by omega) (by omega)
  rw [show (D : Int) = ((0 : Nat) : Int) by omega, e2, hL]
  obtain ⟨q2, rfl⟩ : ∃ m, q2 = m + 60 := ⟨q2 - 60, by omega⟩
  rw [show q2 + 60 = (q2 + 59) + 1 by omega, spec_l3Long.j3]
  by_cases hl : L > 0
  · rw [if_pos (by omega), if_pos (by omega)]
  rw [if_neg (by omega), if_neg (by omega), Option.bind_some]
  have r0 : rd [2, 1] 0 = 2 := rfl
  have r1 : rd [2, 1] 1 = 1 := rfl
  have w1 : wrap64 (0 + 1) = 1 := by rw [wrap64_id _ (by omega) (by omega)]; rfl
  have w2 : wrap64 (1 + 1) = 2 := by rw [wrap64_id _ (by omega) (by omega)]; rfl
  have x2 : (a.extract 0 (2 : Int).toNat).toList = a.data.toList.take 2 := ext_list a 2
  have x1 : (a.extract 0 (1 : Int).toNat).toList = a.data.toList.take 1 := ext_list a 1
  have hone : ∀ q, spec_l3Long.l2 (q + 22) a [2, 1] 2 1 = if bt a 0 = 40 ∨ bt a 0 = 41 ∨ a.data.toList.take 1 ∈ SS then some 1 else some 0 := fun q => by
    rw [spec_l3Long.l2, if_pos (by decide), if_pos (by decide), if_pos (by decide), r1, if_neg (by omega), if_pos rfl, if_pos (by omega)]
    have hz : spec_l3Long.l2 (q + 2) a [2, 1] 2 2 = some 0 := by rw [spec_l3Long.l2, if_neg (by decide)]
    by_cases b1 : bt a 0 = 40
    · rw [if_pos b1, show q + 21 = (q + 20) + 1 from rfl, spec_l3Long.j5, if_pos rfl, if_pos (.inl b1)]
    · rw [if_neg b1, show q + 21 = (q + 20) + 1 from rfl, spec_l3Long.j5]
      by_cases b2 : bt a 0 = 41
      · rw [if_pos (beq_iff_eq.mpr b2), if_pos (.inr (.inl b2))]
      · rw [if_neg (by rw [beq_iff_eq]; exact b2), show q + 20 = (q + 2) + 18 from rfl, signs_is _ _ _ _ _ _ (by decide) (by omega), x1, w2, hz]
        by_cases b3 : a.data.toList.take 1 ∈ SS
        · rw [if_pos b3, if_pos (.inr (.inr b3))]
        · rw [if_neg b3, if_neg (by rintro (h | h | h); exact b1 h; exact b2 h; exact b3 h)]
  rw [show (([2, 1] : List Int).length : Int) = 2 from rfl, show q2 + 59 = (q2 + 58) + 1 from rfl, spec_l3Long.l2, if_pos (by decide), if_pos (by decide), if_pos (by decide), r0, w1]
  have hfin : (if bt a 0 = 40 ∨ bt a 0 = 41 ∨ a.data.toList.take 1 ∈ SS then some (1 : Int) else some 0) = some (if bt a 0 = 40 ∨ bt a 0 = 41 ∨ a.data.toList.take 1 ∈ SS then 1 else 0) := by split <;> rfl
  by_cases h3 : 2 ≤ a.size
  · rw [if_neg (by omega), if_neg (by decide), show q2 + 58 = (q2 + 57) + 1 from rfl, spec_l3Long.j5, if_neg (by decide), show q2 + 57 = (q2 + 39) + 18 from rfl, signs_is _ _ _ _ _ _ (by decide) (by omega), x2, w1]
    by_cases h4 : a.data.toList.take 2 ∈ SS
    · rw [if_pos h4, if_pos ⟨h3, h4⟩]
    · rw [if_neg h4, if_neg (fun e => h4 e.2), show q2 + 39 = (q2 + 17) + 22 from rfl, hone, hfin]
  · rw [if_pos (by omega), if_neg (fun e => h3 e.1), show q2 + 58 = (q2 + 36) + 22 from rfl, hone, hfin]
theorem tokenAt_val (a : ByteArray) (h1 : 1 ≤ a.size) (h2 : a.size ≤ 800) (k : Nat) (hk : 20 < k) : impl_tokenAt.f k a = some (tokV a) := by
  unfold impl_tokenAt.f tokV
  rw [if_pos ⟨h1, by omega⟩]
  by_cases hn : tokN a > 0
  · rw [if_pos hn, if_pos hn]
  rw [if_neg hn, if_neg hn]
  have hlen : a.data.toList.length = a.size := rfl
  obtain ⟨t2, p2, g2⟩ := opOf_val (a.extract 0 2) k hk
  obtain ⟨t1, p1, g1⟩ := opOf_val (a.extract 0 1) k hk
  rw [ext_list] at g1 g2
  have e2 : 2 ≤ a.size → (t2 > 0 ↔ a.data.toList.take 2 ∈ SS) := fun h => g2.trans ⟨fun e => (ss_si _).2 (.inl e), fun e => by
    have hl : (a.data.toList.take 2).length = 2 := by rw [List.length_take]; omega
    rcases (ss_si _).1 e with e | e | e
    · exact e
    · rw [e] at hl; cases hl
    · rw [e] at hl; cases hl⟩
  have e1 : (t1 > 0 ∨ pareB (bt a 0) = true) ↔ (bt a 0 = 40 ∨ bt a 0 = 41 ∨ a.data.toList.take 1 ∈ SS) := by
    obtain ⟨c, t, hc⟩ : ∃ c t, a.data.toList = c :: t := by
      cases h : a.data.toList with
      | nil => rw [h] at hlen; simp at hlen; omega
      | cons c t => exact ⟨c, t, rfl⟩
    rw [bt_head a c t hc, g1, ss_si, hc, show (c :: t).take 1 = [c] by simp]
    unfold pareB
    rw [decide_eq_true_iff]
    have n1 : [c] = [126] ↔ (c.toNat : Int) = 126 := by
      rw [List.cons.injEq]
      exact ⟨fun h => by rw [h.1]; rfl, fun h => ⟨UInt8.toNat_inj.mp (by show c.toNat = 126; omega), rfl⟩⟩
    have n2 : [c] = [33] ↔ (c.toNat : Int) = 33 := by
      rw [List.cons.injEq]
      exact ⟨fun h => by rw [h.1]; rfl, fun h => ⟨UInt8.toNat_inj.mp (by show c.toNat = 33; omega), rfl⟩⟩
    rw [n1, n2]
    constructor
    · rintro (h | h | h | h | h)
      · exact .inr (.inr (.inl h))
      · exact .inl h
      · exact .inr (.inl h)
      · exact .inr (.inr (.inr (.inl h)))
      · exact .inr (.inr (.inr (.inr h)))
    · rintro (h | h | h | h | h)
      · exact .inr (.inl h)
      · exact .inr (.inr (.inl h))
      · exact .inl h
      · exact .inr (.inr (.inr (.inl h)))
      · exact .inr (.inr (.inr (.inr h)))
  have hfin : ((impl_opOf.f k (a.extract 0 1)).bind fun t => if t > 0 then some (1 : Int) else some (if pareB (bt a 0) = true then 1 else 0)) = some (if bt a 0 = 40 ∨ bt a 0 = 41 ∨ a.data.toList.take 1 ∈ SS then 1 else 0) := by
    rw [p1, Option.bind_some]
    by_cases h : t1 > 0
    · rw [if_pos h, if_pos (e1.1 (.inl h))]
    · rw [if_neg h]
      by_cases h3 : pareB (bt a 0) = true
      · rw [if_pos h3, if_pos (e1.1 (.inr h3))]
      · rw [if_neg h3, if_neg (fun e => (e1.2 e).elim h h3)]
  by_cases h3 : 2 ≤ a.size
  · rw [if_pos h3, p2, Option.bind_some, Option.bind_some]
    by_cases h4 : t2 > 0
    · rw [decide_eq_true h4, if_pos rfl, if_pos ⟨h3, (e2 h3).1 h4⟩]
    · rw [decide_eq_false h4, if_neg (by decide), hfin, if_neg (show ¬ (2 ≤ a.size ∧ a.data.toList.take 2 ∈ SS) from fun e => h4 ((e2 h3).2 e.2))]
  · rw [if_neg h3, Option.bind_some, if_neg (by decide), hfin, if_neg (show ¬ (2 ≤ a.size ∧ a.data.toList.take 2 ∈ SS) from fun e => h3 e.1)]
theorem tokV_le (a : ByteArray) (h1 : 1 ≤ a.size) : 0 ≤ tokV a ∧ tokV a ≤ (a.size : Int) := by
  have a1 := runF_le digB a a.size 0 (by omega)
  have a2 := runF_le letB a a.size 0 (by omega)
  have h : tokN a ≤ (a.size : Int) := by unfold tokN; split <;> omega
  unfold tokV
  split
  · omega
  · split
    · rename_i h; have := h.1; omega
    · split <;> omega
end Go.Proofs.Ytkafeohhljdohaa.Pure

namespace Go.Proofs.Ytkafeohhljdohaa.Pure
open Go.RowKit Go.Proofs.Ytkafeohhljdohaa.X Go.Proofs.YtkafeohhljdohaaW.PrintWords Go.Proofs.YtkafeohhljdohaaW.PrintLast Go.Proofs.YtkafeohhljdohaaW.PrintMore Go.Proofs.Ytkafeohhljdohaa.Bits
theorem both_tokens (a : ByteArray) (ha : a.size ≤ 800) : ∀ (d i : Nat) (acc : List S30), i + d = a.size → acc.length ≤ i →
    ∃ R : List S30 × Int × Bool, R.1.length ≤ 800 ∧ ∀ k, 2 * a.size + 200 + d < k → spec_TokensOf.l0 k a acc (i : Int) = some R ∧ impl_TokensOf.l0 k a acc (i : Int) = some R := by
  intro d
  induction d using Nat.strongRecOn with
  | ind d ih =>
    intro i acc hi hacc
    by_cases hlt : i < a.size
    · have e1 : wrap64 ((i : Int) + 1) = ((i + 1 : Nat) : Int) := by rw [wrap64_id _ (by omega) (by omega)]; omega
      by_cases h32 : bt a (i : Int) = 32
      · obtain ⟨R, hR, hk⟩ := ih (d - 1) (by omega) (i + 1) acc (by omega) (by omega)
        refine ⟨R, hR, fun k hk2 => ?_⟩
        obtain ⟨k, rfl⟩ : ∃ m, k = m + 1 := ⟨k - 1, by omega⟩
        rw [spec_TokensOf.l0, impl_TokensOf.l0, if_pos (by omega), if_pos (by omega), if_pos h32, if_pos (by omega), if_pos (by omega), if_pos h32, e1]
        exact hk k (by omega)
      · have hes : (a.extract (i : Int).toNat a.size).size = a.size - i := by rw [ByteArray.size_extract, Int.toNat_natCast]; omega
        obtain ⟨e, he⟩ : ∃ e, a.extract (i : Int).toNat a.size = e := ⟨_, rfl⟩
        rw [he] at hes
        obtain ⟨t0, t1⟩ := tokV_le e (by omega)
        have hl : ∀ k, 2 * a.size + 200 < k → spec_l3Long.f k e = some (tokV e) := fun k hk => long_val e (by omega) (by omega) k (by omega)
        have hm : ∀ k, 2 * a.size + 200 < k → impl_tokenAt.f k e = some (tokV e) := fun k hk => tokenAt_val e (by omega) (by omega) k (by omega)
        by_cases hz : tokV e = 0
        · refine ⟨([], (i : Int), false), by simp, fun k hk2 => ?_⟩
          obtain ⟨k, rfl⟩ : ∃ m, k = m + 1 := ⟨k - 1, by omega⟩
          rw [spec_TokensOf.l0, impl_TokensOf.l0, if_pos (by omega), if_pos (by omega), if_neg h32, if_pos (by omega), if_pos (by omega), if_pos (by omega), if_neg h32, if_pos (by omega), he, hl k (by omega), hm k (by omega), Option.bind_some, Option.bind_some, if_pos hz, if_pos hz]
          exact ⟨rfl, rfl⟩
        · obtain ⟨n, hn⟩ : ∃ n : Nat, tokV e = (n : Int) := ⟨(tokV e).toNat, by omega⟩
          have e2 : wrap64 ((i : Int) + tokV e) = ((i + n : Nat) : Int) := by rw [hn, wrap64_id _ (by omega) (by omega)]; omega
          obtain ⟨R, hR, hk⟩ := ih (d - n) (by omega) (i + n) (acc ++ [⟨(i : Int), a.extract (i : Int).toNat (((i + n : Nat) : Int)).toNat⟩]) (by omega) (by rw [List.length_append, List.length_singleton]; omega)
          refine ⟨R, hR, fun k hk2 => ?_⟩
          obtain ⟨k, rfl⟩ : ∃ m, k = m + 1 := ⟨k - 1, by omega⟩
          rw [spec_TokensOf.l0, impl_TokensOf.l0, if_pos (by omega), if_pos (by omega), if_neg h32, if_pos (by omega), if_pos (by omega), if_pos (by omega), if_neg h32, if_pos (by omega), he, hl k (by omega), hm k (by omega), Option.bind_some, Option.bind_some, if_neg hz, if_neg hz, e2, if_pos (by omega), if_pos (by omega), if_pos (by omega), if_pos (by omega), if_pos (by omega), if_pos (by omega)]
          exact hk k (by omega)
    · refine ⟨(acc, 0, true), by show acc.length ≤ 800; omega, fun k hk2 => ?_⟩
      obtain ⟨k, rfl⟩ : ∃ m, k = m + 1 := ⟨k - 1, by omega⟩
      rw [spec_TokensOf.l0, impl_TokensOf.l0, if_neg (by omega), if_neg (by omega)]
      exact ⟨rfl, rfl⟩
theorem both_is (a : ByteArray) : ∃ R : List S30 × Int × Bool, R.1.length ≤ 800 ∧ ∀ k, 2 * 800 + 200 + 800 < k → spec_TokensOf.f k a = some R ∧ impl_TokensOf.f k a = some R := by
  unfold spec_TokensOf.f impl_TokensOf.f
  by_cases h : (a.size : Int) > 800
  · exact ⟨([], 0, false), by simp, fun k _ => by rw [if_pos h, if_pos h]; exact ⟨rfl, rfl⟩⟩
  · obtain ⟨R, hR, hk⟩ := both_tokens a (by omega) a.size 0 [] (by omega) (by simp)
    exact ⟨R, hR, fun k hk2 => by rw [if_neg h, if_neg h]; exact hk k (by omega)⟩
/-- The text of a mark. -/
theorem mark_loop (d : Nat) : ∀ (n : Int) (x : ByteArray), 0 ≤ n → n < 10 ^ d → n ≤ 1000000 → x.size + d ≤ 1000 → ∃ t, ∀ k, d < k → laws_markText.l0 k n x = some t := by
  induction d with
  | zero =>
    intro n x h0 h1 h2 hx
    have h1 : n < 1 := h1
    refine ⟨(⟨#[109]⟩ : ByteArray) ++ x, fun k hk => ?_⟩
    obtain ⟨k, rfl⟩ : ∃ m, k = m + 1 := ⟨k - 1, by omega⟩
    rw [laws_markText.l0, if_neg (by omega), if_pos (by omega)]
  | succ d ih =>
    intro n x h0 h1 h2 hx
    by_cases hn : n > 0
    · have hp : (10 : Int) ^ (d + 1) = 10 ^ d * 10 := Int.pow_succ 10 d
      rw [hp] at h1
      obtain ⟨p, hpp⟩ : ∃ p : Int, (10 : Int) ^ d = p := ⟨_, rfl⟩
      rw [hpp] at h1 ih
      have hbig : n < 9223372036854775807 := by omega
      · have hdiv : Int.tdiv n 10 = n / 10 := Int.tdiv_eq_ediv_of_nonneg h0
        have hw : wrap64 (Int.tdiv n 10) = n / 10 := by rw [hdiv, wrap64_id _ (by omega) (by omega)]
        have hsz : (strOfNums [(wrap64 (48 + (Int.tmod n 10))) % 256] ++ x).size = x.size + 1 := by
          rw [ByteArray.size_append]
          show 1 + x.size = x.size + 1
          omega
        obtain ⟨t, ht⟩ := ih (n / 10) (strOfNums [(wrap64 (48 + (Int.tmod n 10))) % 256] ++ x) (by omega) (by omega) (by omega) (by omega)
        refine ⟨t, fun k hk => ?_⟩
        obtain ⟨k, rfl⟩ : ∃ m, k = m + 1 := ⟨k - 1, by omega⟩
        have hs1 : (strOfNums [(wrap64 (48 + (Int.tmod n 10))) % 256]).size = 1 := rfl
        rw [laws_markText.l0, if_pos hn, Option.bind_some, if_pos (by rw [hs1]; omega), hw]
        exact ht k (by omega)
    · refine ⟨(⟨#[109]⟩ : ByteArray) ++ x, fun k hk => ?_⟩
      obtain ⟨k, rfl⟩ : ∃ m, k = m + 1 := ⟨k - 1, by omega⟩
      rw [laws_markText.l0, if_neg hn, if_pos (by omega)]
theorem mark_ex (n : Int) (h0 : 0 < n) (h1 : n < 1000000) : ∃ t, ∀ k, 6 < k → laws_markText.f k n = some t := by
  obtain ⟨t, ht⟩ := mark_loop 6 n ⟨#[]⟩ (by omega) (by omega) (by omega) (by decide)
  exact ⟨t, fun k hk => by unfold laws_markText.f; rw [if_neg (by omega)]; exact ht k hk⟩
def mtxt (n : Int) : ByteArray := (laws_markText.f 7 n).getD ⟨#[]⟩
theorem mtxt_is (n : Int) (h0 : 0 < n) (h1 : n < 1000000) (k : Nat) (hk : 6 < k) : laws_markText.f k n = some (mtxt n) := by
  obtain ⟨t, ht⟩ := mark_ex n h0 h1
  unfold mtxt
  rw [ht k hk, ht 7 (by decide)]
  rfl
def mkTok (m : Int) : Nat → List S30
  | 0 => []
  | n + 1 => ⟨m, mtxt (m + 1)⟩ :: mkTok (m + 2) n
theorem mkTok_len (n : Nat) : ∀ m, (mkTok m n).length = n := by
  induction n with
  | zero => intro m; rfl
  | succ n ih => intro m; simp [mkTok, ih]
theorem mkTok_snoc (n : Nat) : ∀ m, mkTok m (n + 1) = mkTok m n ++ [⟨m + 2 * (n : Int), mtxt (m + 2 * (n : Int) + 1)⟩] := by
  induction n with
  | zero => intro m; simp [mkTok]
  | succ n ih =>
    intro m
    rw [mkTok, ih (m + 2), mkTok, List.cons_append, show m + 2 + 2 * (n : Int) = m + 2 * ((n + 1 : Nat) : Int) by omega]
theorem rdTok_at {t : List S30} {i : Nat} (h : i < t.length) : rd_T30 t (i : Int) = t[i] := by
  unfold rd_T30
  rw [Int.toNat_natCast, List.getD_eq_getElem?_getD, List.getElem?_eq_getElem h]; rfl
theorem mkTok_at (m : Int) (n i : Nat) (h : i < n) : rd_T30 (mkTok m n) (i : Int) = ⟨m + 2 * (i : Int), mtxt (m + 2 * (i : Int) + 1)⟩ := by
  induction n generalizing m i with
  | zero => omega
  | succ n ih =>
    cases i with
    | zero => simp [rd_T30, mkTok]
    | succ i =>
      have := ih (m + 2) i (by omega)
      unfold rd_T30 at this ⊢
      rw [Int.toNat_natCast] at this ⊢
      rw [mkTok, List.getD_cons_succ, this, show m + 2 + 2 * (i : Int) = m + 2 * ((i + 1 : Nat) : Int) by omega]
theorem set_midT {α : Type} (a b : List α) (x y : α) (n : Nat) (h : n = a.length) : (a ++ x :: b).set n y = a ++ y :: b := by
  subst h
  simp
theorem markTok_loop (l : List S30) (hl : l.length ≤ 1000) (d : Nat) : ∀ (i k : Nat), i + d = l.length → d + 10 < k →
    laws_markTokenS.l0 k (mkTok 1 i ++ l.drop i) (1 + 2 * (i : Int)) (i : Int) = some (1 + 2 * (l.length : Int), mkTok 1 l.length) := by
  induction d with
  | zero =>
    intro i k hi hk
    obtain ⟨k, rfl⟩ : ∃ m, k = m + 1 := ⟨k - 1, by omega⟩
    obtain rfl : i = l.length := by omega
    rw [laws_markTokenS.l0, if_neg (by rw [List.length_append, mkTok_len, List.length_drop]; omega), List.drop_eq_nil_of_le (by omega), List.append_nil]
  | succ d ih =>
    intro i k hi hk
    obtain ⟨k, rfl⟩ : ∃ m, k = m + 1 := ⟨k - 1, by omega⟩
    have hit : i < l.length := by omega
    have e1 : wrap64 ((i : Int) + 1) = ((i + 1 : Nat) : Int) := by rw [wrap64_id _ (by omega) (by omega)]; omega
    have e2 : wrap64 (1 + 2 * (i : Int) + 1) = 1 + 2 * (i : Int) + 1 := wrap64_id _ (by omega) (by omega)
    have e3 : wrap64 (1 + 2 * (i : Int) + 1 + 1) = 1 + 2 * ((i + 1 : Nat) : Int) := by rw [wrap64_id _ (by omega) (by omega)]; omega
    have hd : l.drop i = l[i] :: l.drop (i + 1) := List.drop_eq_getElem_cons hit
    have hset : ∀ y z : S30, (mkTok 1 i ++ y :: l.drop (i + 1)).set i z = mkTok 1 i ++ z :: l.drop (i + 1) := fun y z => set_midT _ _ _ _ _ (by rw [mkTok_len])
    have hrd : ∀ y : S30, rd_T30 (mkTok 1 i ++ y :: l.drop (i + 1)) (i : Int) = y := fun y => by
      rw [rdTok_at (by rw [List.length_append, mkTok_len, List.length_cons]; omega), List.getElem_append_right (by rw [mkTok_len]; exact Nat.le_refl _)]
      simp [mkTok_len]
    rw [laws_markTokenS.l0, if_pos (by rw [List.length_append, mkTok_len, List.length_drop]; omega), if_pos (by omega), hd, Option.bind_some, Int.toNat_natCast, hset, e2, mtxt_is _ (by omega) (by omega) k (by omega), Option.bind_some, hset, hrd, e3, e1]
    have := ih (i + 1) k (by omega) (by omega)
    rw [mkTok_snoc, List.append_assoc] at this
    exact this
theorem markTok_val (k : Nat) (l : List S30) (hl : l.length ≤ 1000) (hk : l.length + 10 < k) : laws_markTokenS.f k l 1 = some (1 + 2 * (l.length : Int), mkTok 1 l.length) := markTok_loop l hl l.length 0 k (by omega) hk
theorem heldTok_loop (n : Nat) (hn : n ≤ 1000) (d : Nat) : ∀ (i k : Nat), i + d = n → d + 10 < k → laws_heldTokenS.l0 k (mkTok 1 n) (1 + 2 * (i : Int)) (i : Int) = some (1 + 2 * (n : Int)) := by
  induction d with
  | zero =>
    intro i k hi hk
    obtain ⟨k, rfl⟩ : ∃ m, k = m + 1 := ⟨k - 1, by omega⟩
    obtain rfl : i = n := by omega
    rw [laws_heldTokenS.l0, if_neg (by rw [mkTok_len]; omega)]
  | succ d ih =>
    intro i k hi hk
    obtain ⟨k, rfl⟩ : ∃ m, k = m + 1 := ⟨k - 1, by omega⟩
    have e1 : wrap64 ((i : Int) + 1) = ((i + 1 : Nat) : Int) := by rw [wrap64_id _ (by omega) (by omega)]; omega
    have e2 : wrap64 (1 + 2 * (i : Int) + 1) = 1 + 2 * (i : Int) + 1 := wrap64_id _ (by omega) (by omega)
    have e3 : wrap64 (1 + 2 * (i : Int) + 1 + 1) = 1 + 2 * ((i + 1 : Nat) : Int) := by rw [wrap64_id _ (by omega) (by omega)]; omega
    rw [laws_heldTokenS.l0, if_pos (by rw [mkTok_len]; omega), if_pos (by omega), mkTok_at 1 n i (by omega), if_pos rfl, e2, mtxt_is _ (by omega) (by omega) k (by omega), Option.bind_some, if_pos rfl, e3, e1]
    exact ih (i + 1) k (by omega) (by omega)
theorem heldTok_val (k : Nat) (n : Nat) (hn : n ≤ 1000) (hk : n + 10 < k) : laws_heldTokenS.f k (mkTok 1 n) 1 = some (1 + 2 * (n : Int)) := heldTok_loop n hn n 0 k (by omega) hk
theorem eqTok_loop (l : List S30) (hl : l.length ≤ 1000) (d : Nat) : ∀ (i k : Nat), i + d = l.length → d < k → laws_eqTokenS.l0 k l l (i : Int) = some true := by
  induction d with
  | zero =>
    intro i k hi hk
    obtain ⟨k, rfl⟩ : ∃ m, k = m + 1 := ⟨k - 1, by omega⟩
    rw [laws_eqTokenS.l0, if_neg (by omega)]
  | succ d ih =>
    intro i k hi hk
    obtain ⟨k, rfl⟩ : ∃ m, k = m + 1 := ⟨k - 1, by omega⟩
    have e1 : wrap64 ((i : Int) + 1) = ((i + 1 : Nat) : Int) := by rw [wrap64_id _ (by omega) (by omega)]; omega
    have he : ∀ y : S30, laws_eqToken.f y.f0 y.f1 y.f0 y.f1 = some true := fun y => by unfold laws_eqToken.f; rw [if_pos rfl, if_pos rfl]
    rw [laws_eqTokenS.l0, if_pos (by omega), if_pos (by omega), if_pos (by omega), he, Option.bind_some, if_pos rfl, e1]
    exact ih (i + 1) k (by omega) (by omega)
theorem eqTok_val (k : Nat) (l : List S30) (hl : l.length ≤ 1000) (hk : l.length < k) : laws_eqTokenS.f k l l = some true := by
  unfold laws_eqTokenS.f
  rw [if_pos rfl]
  exact eqTok_loop l hl l.length 0 k (by omega) hk
theorem FnExactTokensOf : laws_FnExactTokensOf.Pure := by
  intro a _
  by_cases h : (a.size : Int) > 1048576
  · exact ⟨0, by unfold laws_FnExactTokensOf.f; rw [if_pos h]⟩
  obtain ⟨R, hR, hk⟩ := both_is a
  obtain ⟨x, y, z⟩ := R
  have hx : x.length ≤ 800 := hR
  have hbb : (z != z) = false := by cases z <;> rfl
  refine ⟨5003, ?_⟩
  unfold laws_FnExactTokensOf.f
  rw [if_neg h, (hk 5003 (by decide)).1, Option.bind_some, (hk 5003 (by decide)).2, Option.bind_some]
  dsimp only
  rw [eqTok_val 5003 x (by omega) (by omega), Option.bind_some, if_pos rfl, if_pos rfl, hbb, laws_FnExactTokensOf.j0, if_neg (by decide), markTok_val 5002 x (by omega) (by omega), Option.bind_some]
  dsimp only
  rw [heldTok_val 5002 x.length (by omega) (by omega), Option.bind_some, if_neg (by omega), if_pos rfl, (hk 5002 (by decide)).2, Option.bind_some]
  dsimp only
  rw [eqTok_val 5002 x (by omega) (by omega), Option.bind_some, if_pos rfl, if_pos rfl, hbb, laws_FnExactTokensOf.j1, if_neg (by decide), heldTok_val 5001 x.length (by omega) (by omega), Option.bind_some, if_neg (by omega), if_pos rfl]
end Go.Proofs.Ytkafeohhljdohaa.Pure
