/- Bits of 64-bit words as the model tells them: and, or, xor, shifts and masks as remainders and powers of two. No condition. What the functions on words compute: each printed function's value, in terms of remainders and powers of two. Conditions: the numbers are of their kinds. What the words' functions compute: both words, signed numbers, shifts (as in XLawsA, with no law). Conditions: those named. What an operator makes of two words: the reference's l2Do and the program's apply come to the same word. Conditions: those named. Terms as lists of nodes: what an operator needs, whether a node's number fits, and the stack of kinds; the reference's and the program's functions come to these. Conditions: numbers are of their kinds, lists no longer than 2^20. Lists of nodes as the laws hand them over: copied, compared, measured. Conditions: those named. Good terms as trees: a list of nodes that the stack of kinds takes is a tree's nodes in order; a run over a stack of values comes to the tree's own value. Conditions: none beyond those named. Where a tree's nodes begin: the reference's l2From over places. Conditions: those named. The value of a term's tree; the reference's recursion and the program's stack come to it. Conditions: those named. The laws' own list functions (copying, comparing, measuring, writing over, looking again) come to plain lists. Conditions: lists no longer than 2^20. Written by wip/xp/lists.py. The variables of a term: the reference's insertion and the program's sorting and compacting come to one strictly rising list (as in XVars, with no law). Conditions: those named. Folding: the reference's recursion over places and the program's over cuts come to the folded tree. Conditions: those named. The laws' own list functions (copying, comparing, measuring, writing over, looking again) come to plain lists. Conditions: lists no longer than 2^20. Written by wip/xp/lists.py. The law on FoldTerm. Conditions: those of the law's own Pure. -/
import Derived.Test.YtckdgmbmjfhodaaWMore
import Derived.Laws.BitsLemmas
import Derived.Test.YtckdgmbmjfhodaaXO
import Derived.Lib.SlicesCompact
import Derived.Test.YtckdgmbmjfhodaaX1
import Derived.Test.YtckdgmbmjfhodaaX11
import Derived.Test.YtckdgmbmjfhodaaX18
import Derived.Test.YtckdgmbmjfhodaaX22
import Derived.Test.YtckdgmbmjfhodaaX28
import Derived.Test.YtckdgmbmjfhodaaX30
import Derived.Test.YtckdgmbmjfhodaaX33
import Derived.Test.YtckdgmbmjfhodaaX45
import Derived.Test.YtckdgmbmjfhodaaX7
namespace Go.Proofs.Ytckdgmbmjfhodaa.Bits
open Go.RowKit Go.Proofs.YtckdgmbmjfhodaaW.PrintWords

theorem wrap_u64 (n : Int) : IntKind.u64.wrap n = n % 18446744073709551616 := by simp [IntKind.wrap, IntKind.bits, IntKind.signed]
theorem wraps_u64 (n : Int) (h₀ : 0 ≤ n) (h₁ : n < 2 ^ 64) : IntKind.u64.wrap n = n := by rw [wrap_u64]; omega
theorem u64_id (n : Int) (h₀ : 0 ≤ n) (h₁ : n < 18446744073709551616) : IntKind.u64.wrap n = n := by rw [wrap_u64]; omega
theorem u64_range (n : Int) : 0 ≤ IntKind.u64.wrap n ∧ IntKind.u64.wrap n < 18446744073709551616 := by rw [wrap_u64]; omega
theorem and_u64 (a b : Nat) (ha : a < 2 ^ 64) (hb : b < 2 ^ 64) : Go.bits .and .u64 a b = ((a &&& b : Nat) : Int) := (bits_nat .u64 64 (by decide) wraps_u64 a b ha hb).1
theorem or_u64 (a b : Nat) (ha : a < 2 ^ 64) (hb : b < 2 ^ 64) : Go.bits .or .u64 a b = ((a ||| b : Nat) : Int) := (bits_nat .u64 64 (by decide) wraps_u64 a b ha hb).2
theorem xor_nat (k : IntKind) (j : Nat) (hj : j ≤ k.bits) (hk : ∀ n : Int, 0 ≤ n → n < 2 ^ j → k.wrap n = n) (a b : Nat) (ha : a < 2 ^ j) (hb : b < 2 ^ j) :
    Go.bits .xor k a b = ((a ^^^ b : Nat) : Int) := by
  have hp : 2 ^ j ≤ 2 ^ k.bits := Nat.pow_le_pow_right (by decide) hj
  have ha' : a % 2 ^ k.bits = a := Nat.mod_eq_of_lt (Nat.lt_of_lt_of_le ha hp)
  have hb' : b % 2 ^ k.bits = b := Nat.mod_eq_of_lt (Nat.lt_of_lt_of_le hb hp)
  show k.wrap ((BitVec.ofInt k.bits (a : Int) ^^^ BitVec.ofInt k.bits (b : Int)).toNat : Int) = _
  rw [BitVec.ofInt_natCast, BitVec.ofInt_natCast, BitVec.toNat_xor, BitVec.toNat_ofNat, BitVec.toNat_ofNat, ha', hb']
  have h := Int.ofNat_lt.mpr (Nat.xor_lt_two_pow ha hb)
  rw [Int.natCast_pow] at h
  exact hk _ (Int.natCast_nonneg _) h
theorem xor_u64 (a b : Nat) (ha : a < 2 ^ 64) (hb : b < 2 ^ 64) : Go.bits .xor .u64 a b = ((a ^^^ b : Nat) : Int) := xor_nat .u64 64 (by decide) wraps_u64 a b ha hb
theorem bits_range (op : BinOp) (a b : Int) : 0 ≤ Go.bits op .u64 a b ∧ Go.bits op .u64 a b < 18446744073709551616 := by
  unfold Go.bits; exact u64_range _
theorem wf_i64 {a : Int} (h : (Lit.int .i64 a).wf = true) : -9223372036854775808 ≤ a ∧ a ≤ 9223372036854775807 := by
  simpa [Lit.wf, IntKind.min, IntKind.max, IntKind.signed, IntKind.bits] using h
theorem wf_u64 {a : Int} (h : (Lit.int .u64 a).wf = true) : 0 ≤ a ∧ a < 18446744073709551616 := by
  have : 0 ≤ a ∧ a ≤ 18446744073709551615 := by
    simpa [Lit.wf, IntKind.min, IntKind.max, IntKind.signed, IntKind.bits] using h
  omega
theorem wrap64_id (n : Int) (h0 : -9223372036854775808 ≤ n) (h1 : n ≤ 9223372036854775807) : wrap64 n = n := by unfold wrap64; omega

theorem pow_le (n : Nat) (h : n ≤ 64) : (2 : Int) ^ n ≤ 18446744073709551616 := by
  have h2 := Int.ofNat_le.mpr (Nat.pow_le_pow_right (n := 2) (by decide) h)
  rw [Int.natCast_pow] at h2
  exact h2
theorem pow_pos (n : Nat) : (0 : Int) < 2 ^ n := Int.pow_pos (by decide)

theorem shl_one (k : Nat) (h : k < 64) : shl .u64 1 (k : Int) = ((2 ^ k : Nat) : Int) := by
  have hb : IntKind.u64.bits = 64 := rfl
  unfold shl
  rw [hb, Int.toNat_natCast, Nat.min_eq_left (by omega), Int.one_mul, wraps_u64]
  · simp
  · exact Int.le_of_lt (Int.pow_pos (by decide))
  · exact_mod_cast Nat.pow_lt_pow_right (by decide) h
theorem mod_or_and (a k : Nat) : (a % 2 ^ k) ||| (a &&& 2 ^ k) = a % 2 ^ (k + 1) := by
  apply Nat.eq_of_testBit_eq
  intro i
  simp only [Nat.testBit_or, Nat.testBit_mod_two_pow, Nat.testBit_and, Nat.testBit_two_pow]
  by_cases h : i < k
  · have h2 : ¬ k = i := by omega
    have h3 : i < k + 1 := by omega
    simp [h, h2, h3]
  · by_cases h2 : k = i
    · subst h2; simp
    · have h3 : ¬ i < k + 1 := by omega
      simp [h, h2, h3]
/-- One round of the lower bits, bit by bit. -/
theorem cut_step (a : Int) (k : Nat) (h0 : 0 ≤ a) (ha : a < 18446744073709551616) (hk : k < 64) :
    Go.bits .or .u64 (a % 2 ^ k) (Go.bits .and .u64 a (shl .u64 1 (k : Int))) = a % 2 ^ (k + 1) := by
  obtain ⟨n, rfl⟩ := Int.eq_ofNat_of_zero_le h0
  have hn : n < 2 ^ 64 := by omega
  have e1 : ((n : Int) % 2 ^ k) = ((n % 2 ^ k : Nat) : Int) := by simp
  have e2 : ((n : Int) % 2 ^ (k + 1)) = ((n % 2 ^ (k + 1) : Nat) : Int) := by simp
  rw [e1, e2, shl_one k hk, and_u64 n _ hn (Nat.pow_lt_pow_right (by decide) hk), or_u64 _ _ (Nat.lt_of_le_of_lt (Nat.mod_le _ _) hn) (Nat.and_lt_two_pow _ (Nat.pow_lt_pow_right (by decide) hk)), mod_or_and]
theorem mask_val (w : Int) (h0 : 1 ≤ w) (h1 : w ≤ 64) : shr .u64 18446744073709551615 (64 - w) = 2 ^ w.toNat - 1 := by
  obtain ⟨n, rfl⟩ := Int.eq_ofNat_of_zero_le (show 0 ≤ w by omega)
  have hb : IntKind.u64.bits = 64 := rfl
  unfold shr
  rw [hb, Int.toNat_natCast, Nat.min_eq_left (by omega)]
  have e : (64 - (n : Int)).toNat = 64 - n := by omega
  rw [e]
  have hn : n ≤ 64 := by omega
  have hp : 0 < n := by omega
  have h2 : 2 ^ (64 - n) * 2 ^ n = 2 ^ 64 := by rw [← Nat.pow_add]; congr 1; omega
  have hx : 0 < 2 ^ (64 - n) := Nat.two_pow_pos _
  have hy : 0 < 2 ^ n := Nat.two_pow_pos _
  have h3 : (18446744073709551615 : Nat) / 2 ^ (64 - n) = 2 ^ n - 1 := by
    rw [Nat.div_eq_iff hx]
    have h4 : (2 ^ n - 1) * 2 ^ (64 - n) = 2 ^ 64 - 2 ^ (64 - n) := by rw [Nat.sub_mul, Nat.mul_comm, h2]; omega
    have h5 : 2 ^ (64 - n) ≤ 2 ^ 64 := Nat.pow_le_pow_right (by decide) (by omega)
    rw [h4]
    omega
  have h6 : (18446744073709551615 : Int) / 2 ^ (64 - n) = (((18446744073709551615 : Nat) / 2 ^ (64 - n) : Nat) : Int) := by simp
  rw [h6, h3, Int.natCast_sub hy]
  simp
theorem and_mask (a : Int) (n : Nat) (h0 : 0 ≤ a) (ha : a < 18446744073709551616) (hn : n ≤ 64) : Go.bits .and .u64 a (2 ^ n - 1) = a % 2 ^ n :=
  bits_mask .u64 64 (by decide) wraps_u64 n hn a h0 ha
/-- The lowest bit. -/
theorem and_one (a : Int) (h0 : 0 ≤ a) (ha : a < 18446744073709551616) : Go.bits .and .u64 a 1 = a % 2 := by
  have := and_mask a 1 h0 ha (by decide)
  simpa using this
/-- The complement. -/
theorem xor_max (a : Int) (h0 : 0 ≤ a) (ha : a < 18446744073709551616) : Go.bits .xor .u64 18446744073709551615 a = 18446744073709551615 - a := by
  obtain ⟨n, rfl⟩ := Int.eq_ofNat_of_zero_le h0
  have hn : n < 2 ^ 64 := by omega
  have := xor_u64 18446744073709551615 n (by decide) hn
  rw [show ((18446744073709551615 : Nat) : Int) = 18446744073709551615 from rfl] at this
  rw [this]
  have h2 : (18446744073709551615 : Nat) ^^^ n = 18446744073709551615 - n := by
    have e1 : (BitVec.allOnes 64 ^^^ BitVec.ofNat 64 n).toNat = 18446744073709551615 ^^^ n := by
      rw [BitVec.toNat_xor, BitVec.toNat_allOnes, BitVec.toNat_ofNat, Nat.mod_eq_of_lt hn]
    have e2 : (BitVec.allOnes 64 ^^^ BitVec.ofNat 64 n) = ~~~ BitVec.ofNat 64 n := BitVec.allOnes_xor
    rw [← e1, e2, BitVec.toNat_not, BitVec.toNat_ofNat, Nat.mod_eq_of_lt hn]
  rw [h2]
  omega
/-- A number below 2^i beside a multiple of 2^i. -/
theorem or_join (x y : Int) (i : Nat) (hi : i ≤ 64) (hx0 : 0 ≤ x) (hx : x % 2 ^ i = 0) (hx1 : x < 18446744073709551616) (hy0 : 0 ≤ y) (hy : y < 2 ^ i) : Go.bits .or .u64 x y = x + y :=
  bits_join .u64 64 (by decide) wraps_u64 i x y hx0 hx hx1 hy0 hy (by have := pow_le i hi; omega)
theorem or_comm (x y : Int) : Go.bits .or .u64 x y = Go.bits .or .u64 y x := by
  unfold Go.bits; simp only [BitVec.or_comm]
theorem or_join' (x y : Int) (i : Nat) (hi : i ≤ 64) (hx0 : 0 ≤ x) (hx : x % 2 ^ i = 0) (hx1 : x < 18446744073709551616) (hy0 : 0 ≤ y) (hy : y < 2 ^ i) : Go.bits .or .u64 y x = y + x := by
  rw [or_comm, or_join x y i hi hx0 hx hx1 hy0 hy, Int.add_comm]
/-- The words of a width. -/
def word (w a : Int) : Prop := 1 ≤ w ∧ w ≤ 64 ∧ 0 ≤ a ∧ a < 2 ^ w.toNat
instance (w a : Int) : Decidable (word w a) := by unfold word; infer_instance
theorem pow_split (w : Int) (h0 : 1 ≤ w) (h1 : w ≤ 64) : (2 : Int) ^ (64 - w).toNat * 2 ^ w.toNat = 18446744073709551616 := by
  rw [← Int.pow_add, show (64 - w).toNat + w.toNat = 64 by omega]; decide
theorem pow_half (w : Int) (h0 : 1 ≤ w) : (2 : Int) ^ w.toNat = 2 * 2 ^ (w - 1).toNat := by
  rw [show w.toNat = (w - 1).toNat + 1 by omega, Int.pow_succ]; omega
/-- The two's complement value. -/
def sgn (w a : Int) : Int := if a < 2 ^ (w - 1).toNat then a else a - 2 ^ w.toNat
end Go.Proofs.Ytckdgmbmjfhodaa.Bits

namespace Go.Proofs.Ytckdgmbmjfhodaa.Pure
open Go.RowKit Go.Proofs.Ytckdgmbmjfhodaa.X Go.Proofs.YtckdgmbmjfhodaaW.PrintWords Go.Proofs.Ytckdgmbmjfhodaa.Bits

theorem l1In_val (a b c : Int) : spec_l1In.f a b c = some (decide (b ≤ a ∧ a ≤ c)) := by
  unfold spec_l1In.f
  by_cases h : a ≥ b
  · rw [if_pos h]; simp [show b ≤ a from h]
  · rw [if_neg h]; simp [show ¬ b ≤ a from h]
theorem l1Wide_val (a : Int) : spec_l1Wide.f a = some (decide (1 ≤ a ∧ a ≤ 64)) := by
  unfold spec_l1Wide.f
  rw [l1In_val]; rfl
theorem isWide_val (a : Int) : impl_isWide.f a = some (decide (1 ≤ a ∧ a ≤ 64)) := by
  unfold impl_isWide.f
  by_cases h : a ≥ 1
  · rw [if_pos h]; simp [show 1 ≤ a from h]
  · rw [if_neg h]; simp [show ¬ 1 ≤ a from h]
theorem mask_f (w : Int) (h0 : 1 ≤ w) (h1 : w ≤ 64) : impl_mask.f w = some (2 ^ w.toNat - 1) := by
  unfold impl_mask.f
  have e : wrap64 (64 - w) = 64 - w := wrap64_id _ (by omega) (by omega)
  rw [e, if_pos (by omega), mask_val w h0 h1]
theorem cut_loop (w a : Int) (h0 : 0 ≤ a) (ha : a < 18446744073709551616) (hw : w ≤ 64) (d : Nat) :
    ∀ (k i : Nat), (i : Int) + d = w → d < k → spec_l1Cut.l0 k w a (a % 2 ^ i) (i : Int) = some (a % 2 ^ w.toNat) := by
  induction d with
  | zero =>
    intro k i hi hk
    obtain ⟨k, rfl⟩ : ∃ m, k = m + 1 := ⟨k - 1, by omega⟩
    simp only [spec_l1Cut.l0]
    rw [if_neg (by omega), show w.toNat = i by omega]
  | succ d ih =>
    intro k i hi hk
    obtain ⟨k, rfl⟩ : ∃ m, k = m + 1 := ⟨k - 1, by omega⟩
    simp only [spec_l1Cut.l0]
    rw [if_pos (by omega), u64_id (i : Int) (by omega) (by omega), if_pos (by omega), cut_step a i h0 ha (by omega)]
    have e : wrap64 ((i : Int) + 1) = ((i + 1 : Nat) : Int) := by rw [wrap64_id _ (by omega) (by omega)]; omega
    rw [e]
    exact ih k (i + 1) (by omega) (by omega)
theorem cut_val (k : Nat) (w a : Int) (hk : 65 < k) (hw0 : 0 ≤ w) (hw : w ≤ 64) (h0 : 0 ≤ a) (ha : a < 18446744073709551616) :
    spec_l1Cut.f k w a = some (a % 2 ^ w.toNat) := by
  have := cut_loop w a h0 ha hw w.toNat k 0 (by omega) (by omega)
  unfold spec_l1Cut.f
  simpa using this
theorem cut_word (w a : Int) (h : word w a) : a % 2 ^ w.toNat = a := Int.emod_eq_of_lt h.2.2.1 h.2.2.2
theorem word_lt {w a : Int} (h : word w a) : a < 18446744073709551616 := Int.lt_of_lt_of_le h.2.2.2 (pow_le _ (by have := h.1; have := h.2.1; omega))
theorem goodWord_spec (k : Nat) (w a : Int) (hk : 65 < k) (h0 : 0 ≤ a) (ha : a < 18446744073709551616) : spec_GoodWord.f k w a = some (decide (word w a)) := by
  unfold spec_GoodWord.f
  rw [l1Wide_val]
  simp only [Option.bind_some]
  by_cases h : 1 ≤ w ∧ w ≤ 64
  · rw [if_pos (by simpa using h), cut_val k w a hk (by omega) h.2 h0 ha]
    simp only [Option.bind_some, Option.some.injEq]
    rw [Bool.eq_iff_iff]
    simp only [beq_iff_eq, decide_eq_true_eq]
    constructor
    · intro e
      refine ⟨h.1, h.2, h0, ?_⟩
      rw [← e]; exact Int.emod_lt_of_pos _ (pow_pos _)
    · exact cut_word w a
  · rw [if_neg (by simpa using h)]
    have : ¬ word w a := fun e => h ⟨e.1, e.2.1⟩
    simp [this]
theorem goodWord_impl (w a : Int) (h0 : 0 ≤ a) : impl_GoodWord.f w a = some (decide (word w a)) := by
  unfold impl_GoodWord.f
  rw [isWide_val]
  simp only [Option.bind_some]
  by_cases h : 1 ≤ w ∧ w ≤ 64
  · rw [if_pos (by simpa using h), mask_f w h.1 h.2]
    simp only [Option.bind_some, Option.some.injEq]
    rw [Bool.eq_iff_iff]
    simp only [decide_eq_true_eq]
    constructor
    · intro e; exact ⟨h.1, h.2, h0, by omega⟩
    · intro e; have := e.2.2.2; omega
  · rw [if_neg (by simpa using h)]
    have : ¬ word w a := fun e => h ⟨e.1, e.2.1⟩
    simp [this]
end Go.Proofs.Ytckdgmbmjfhodaa.Pure

namespace Go.Proofs.Ytckdgmbmjfhodaa.Pure
open Go.RowKit Go.Proofs.Ytckdgmbmjfhodaa.X Go.Proofs.YtckdgmbmjfhodaaW.PrintWords Go.Proofs.Ytckdgmbmjfhodaa.Bits

theorem both_spec (k : Nat) (w a b : Int) (hk : 65 < k) (h0 : 0 ≤ a) (ha : a < 18446744073709551616) (k0 : 0 ≤ b) (hb : b < 18446744073709551616) :
    spec_l1Both.f k w a b = some (decide (word w a ∧ word w b)) := by
  unfold spec_l1Both.f
  rw [goodWord_spec k w a hk h0 ha, goodWord_spec k w b hk k0 hb]
  simp only [Option.bind_some]
  by_cases h : word w a <;> simp [h]
theorem both_impl (w a b : Int) (h0 : 0 ≤ a) (k0 : 0 ≤ b) : impl_areWords.f w a b = some (decide (word w a ∧ word w b)) := by
  unfold impl_areWords.f
  rw [goodWord_impl w a h0, goodWord_impl w b k0]
  simp only [Option.bind_some]
  by_cases h : word w a <;> simp [h]
theorem pow_le63 (n : Nat) (h : n ≤ 63) : (2 : Int) ^ n ≤ 9223372036854775808 := by
  have h2 := Int.ofNat_le.mpr (Nat.pow_le_pow_right (n := 2) (by decide) h)
  rw [Int.natCast_pow] at h2
  exact h2
theorem signed_spec (k : Nat) (w a : Int) (hk : 65 < k) (h : word w a) : spec_l1Signed.f k w a = some (sgn w a) := by
  have h1 := h.1
  have h2 := h.2.1
  have h3 := h.2.2.1
  have h4 := h.2.2.2
  have hlt := word_lt h
  have e1 : wrap64 (w - 1) = w - 1 := wrap64_id _ (by omega) (by omega)
  have e2 : IntKind.u64.wrap (w - 1) = w - 1 := u64_id _ (by omega) (by omega)
  have hp := pow_pos (w - 1).toNat
  have hh := pow_half w h1
  have h63 := pow_le63 (w - 1).toNat (by omega)
  have hb : IntKind.u64.bits = 64 := rfl
  have e3 : shr .u64 a (w - 1) = a / 2 ^ (w - 1).toNat := by unfold shr; rw [hb, Nat.min_eq_left (by omega)]
  have q0 : 0 ≤ a / 2 ^ (w - 1).toNat := Int.ediv_nonneg h3 (by omega)
  have q1 : a / 2 ^ (w - 1).toNat < 2 := Int.ediv_lt_of_lt_mul hp (by omega)
  unfold spec_l1Signed.f
  rw [e1, e2, if_pos (by omega), e3, and_one _ q0 (by omega)]
  unfold sgn
  by_cases hc : a < 2 ^ (w - 1).toNat
  · have q : a / 2 ^ (w - 1).toNat = 0 := Int.ediv_eq_zero_of_lt h3 hc
    rw [q, if_neg (by decide), if_pos hc, wrap64_id a (by omega) (by omega)]
  · have q : a / 2 ^ (w - 1).toNat = 1 := by
      have : 1 ≤ a / 2 ^ (w - 1).toNat := (Int.le_ediv_iff_mul_le hp).mpr (by omega)
      omega
    have hpw := pow_pos w.toNat
    have hple := pow_le w.toNat (by omega)
    have hs := pow_split w h1 h2
    have m1 : (18446744073709551615 : Int) % 2 ^ w.toNat = 2 ^ w.toNat - 1 := by
      have : (18446744073709551615 : Int) = (2 ^ w.toNat - 1) + 2 ^ w.toNat * (2 ^ (64 - w).toNat - 1) := by
        rw [Int.mul_sub, Int.mul_comm (2 ^ w.toNat), hs]; omega
      rw [this, Int.add_mul_emod_self_left, Int.emod_eq_of_lt (by omega) (by omega)]
    have m2 : (18446744073709551615 - (2 ^ w.toNat - 1) : Int) % 2 ^ w.toNat = 0 := by
      have : (18446744073709551615 - (2 ^ w.toNat - 1) : Int) = 2 ^ w.toNat * (2 ^ (64 - w).toNat - 1) := by
        rw [Int.mul_sub, Int.mul_comm (2 ^ w.toNat), hs]; omega
      rw [this, Int.mul_emod_right]
    rw [q, if_pos (by decide), if_neg hc, cut_val k w _ hk (by omega) h2 (by decide) (by decide), m1]
    simp only [Option.bind_some]
    rw [xor_max _ (by omega) (by omega), or_join' _ a w.toNat (by omega) (by omega) m2 (by omega) h3 h4]
    unfold wrap64
    simp only [Option.some.injEq]
    omega
theorem signed_impl (w a : Int) (h : word w a) : impl_signed.f w a = some (sgn w a) := by
  have h1 := h.1
  have h2 := h.2.1
  have h3 := h.2.2.1
  have h4 := h.2.2.2
  have e1 : wrap64 (64 - w) = 64 - w := wrap64_id _ (by omega) (by omega)
  have hb : IntKind.u64.bits = 64 := rfl
  have hb' : IntKind.i64.bits = 64 := rfl
  have hs := pow_split w h1 h2
  have hq := pow_pos (64 - w).toNat
  have hh := pow_half w h1
  have hp := pow_pos (w - 1).toNat
  have m1 : a * 2 ^ (64 - w).toNat < 18446744073709551616 := by
    rw [← hs, Int.mul_comm]; exact Int.mul_lt_mul_of_pos_left h4 hq
  have m0 : 0 ≤ a * 2 ^ (64 - w).toNat := Int.mul_nonneg h3 (by omega)
  have e2 : shl .u64 a (64 - w) = a * 2 ^ (64 - w).toNat := by
    unfold shl; rw [hb, Nat.min_eq_left (by omega)]; exact u64_id _ m0 m1
  have half : (2 : Int) ^ (w - 1).toNat * 2 ^ (64 - w).toNat = 9223372036854775808 := by
    rw [← Int.pow_add, show (w - 1).toNat + (64 - w).toNat = 63 by omega]; decide
  unfold impl_signed.f
  rw [e1, if_pos (by omega), e2]
  unfold shr
  rw [hb', Nat.min_eq_left (by omega)]
  unfold sgn
  by_cases hc : a < 2 ^ (w - 1).toNat
  · have : a * 2 ^ (64 - w).toNat < 9223372036854775808 := by rw [← half]; exact Int.mul_lt_mul_of_pos_right hc hq
    rw [if_pos hc, wrap64_id _ (by omega) (by omega), Int.mul_ediv_cancel _ (by omega)]
  · have : 9223372036854775808 ≤ a * 2 ^ (64 - w).toNat := by rw [← half]; exact Int.mul_le_mul_of_nonneg_right (by omega) (by omega)
    have e3 : wrap64 (a * 2 ^ (64 - w).toNat) = (a - 2 ^ w.toNat) * 2 ^ (64 - w).toNat := by
      rw [Int.sub_mul, Int.mul_comm (2 ^ w.toNat), hs]
      unfold wrap64
      omega
    rw [if_neg hc, e3, Int.mul_ediv_cancel _ (by omega)]
theorem mod_mod (n : Int) (w : Nat) (hw : w ≤ 64) : n % 18446744073709551616 % 2 ^ w = n % 2 ^ w := by
  apply Int.emod_emod_of_dvd
  refine ⟨2 ^ (64 - w), ?_⟩
  rw [← Int.pow_add, show w + (64 - w) = 64 by omega]
  decide
theorem shift_left_loop (w : Int) (h1 : 1 ≤ w) (h2 : w ≤ 64) (d : Nat) : ∀ (k : Nat) (x : Int), 0 ≤ x → x < 18446744073709551616 → d ≤ 64 → d + 67 < k →
    x = x % 2 ^ w.toNat → spec_l1Shift.l0 k w x (d : Int) true = some (x * 2 ^ d % 2 ^ w.toNat) := by
  induction d with
  | zero =>
    intro k x h0 hx hd hk he
    obtain ⟨k, rfl⟩ : ∃ m, k = m + 1 := ⟨k - 1, by omega⟩
    simp only [spec_l1Shift.l0]
    rw [if_neg (by omega)]
    simpa using he
  | succ d ih =>
    intro k x h0 hx hd hk he
    obtain ⟨k, rfl⟩ : ∃ m, k = m + 1 := ⟨k - 1, by omega⟩
    have hr := u64_range (x * 2)
    have hp := pow_pos w.toNat
    have hle := pow_le w.toNat (by omega)
    have r0 := Int.emod_nonneg (IntKind.u64.wrap (x * 2)) (show (2 : Int) ^ w.toNat ≠ 0 by omega)
    have r1 := Int.emod_lt_of_pos (IntKind.u64.wrap (x * 2)) hp
    simp only [spec_l1Shift.l0]
    rw [if_pos (by omega)]
    simp only [if_true]
    rw [cut_val k w _ (by omega) (by omega) h2 hr.1 hr.2]
    simp only [Option.bind_some]
    rw [show ((d + 1 : Nat) : Int) - 1 = (d : Int) by omega, u64_id (d : Int) (by omega) (by omega), ih k _ r0 (by omega) (by omega) (by omega) (Int.emod_emod _ _).symm]
    rw [wrap_u64, mod_mod _ _ (by omega), Int.pow_succ]
    congr 1
    rw [Int.mul_emod, Int.emod_emod, ← Int.mul_emod, Int.mul_assoc, Int.mul_comm 2]
theorem shift_right_loop (w : Int) (d : Nat) : ∀ (k : Nat) (x : Int), d ≤ 64 → d < k →
    spec_l1Shift.l0 k w x (d : Int) false = some (x / 2 ^ d) := by
  induction d with
  | zero =>
    intro k x hd hk
    obtain ⟨k, rfl⟩ : ∃ m, k = m + 1 := ⟨k - 1, by omega⟩
    simp only [spec_l1Shift.l0]
    rw [if_neg (by omega)]
    simp
  | succ d ih =>
    intro k x hd hk
    obtain ⟨k, rfl⟩ : ∃ m, k = m + 1 := ⟨k - 1, by omega⟩
    simp only [spec_l1Shift.l0]
    rw [if_pos (by omega), if_neg (by decide), show ((d + 1 : Nat) : Int) - 1 = (d : Int) by omega, u64_id (d : Int) (by omega) (by omega), ih k _ (by omega) (by omega)]
    rw [Int.pow_succ, Int.mul_comm, Int.ediv_ediv_of_nonneg (by decide)]
/-- What a shift makes of a word. -/
def shifted (w a by_ : Int) (left : Bool) : Int := if by_ ≥ w then 0 else if left = true then a * 2 ^ by_.toNat % 2 ^ w.toNat else a / 2 ^ by_.toNat
theorem shift_spec (k : Nat) (w a b : Int) (left : Bool) (hk : 140 < k) (ha : word w a) (hb : 0 ≤ b) : spec_l1Shift.f k w a b left = some (shifted w a b left) := by
  have h1 := ha.1
  have h2 := ha.2.1
  unfold spec_l1Shift.f shifted
  rw [u64_id w (by omega) (by omega)]
  by_cases hc : b ≥ w
  · rw [if_pos hc, if_pos hc]
  · rw [if_neg hc, if_neg hc]
    obtain ⟨n, rfl⟩ := Int.eq_ofNat_of_zero_le hb
    cases left with
    | true => rw [shift_left_loop w h1 h2 n k a ha.2.2.1 (word_lt ha) (by omega) (by omega) (cut_word w a ha).symm, if_pos rfl, Int.toNat_natCast]
    | false => rw [shift_right_loop w n k a (by omega) (by omega), if_neg (by decide), Int.toNat_natCast]
theorem shift_impl (w a b : Int) (left : Bool) (ha : word w a) (hb : 0 ≤ b) : impl_shift.f w a b left = some (shifted w a b left) := by
  have h1 := ha.1
  have h2 := ha.2.1
  have hbits : IntKind.u64.bits = 64 := rfl
  unfold impl_shift.f shifted
  rw [u64_id w (by omega) (by omega)]
  by_cases hc : b ≥ w
  · rw [if_pos hc, if_pos hc]
  · rw [if_neg hc, if_neg hc]
    cases left with
    | true =>
      rw [if_pos rfl, if_pos hb, mask_f w h1 h2, if_pos rfl]
      simp only [Option.bind_some]
      have hr := u64_range (a * 2 ^ b.toNat)
      unfold shl
      rw [hbits, Nat.min_eq_left (by omega), and_mask _ _ hr.1 hr.2 (by omega), wrap_u64, mod_mod _ _ (by omega)]
    | false =>
      rw [if_neg (by decide), if_pos hb, if_neg (by decide)]
      unfold shr
      rw [hbits, Nat.min_eq_left (by omega)]
end Go.Proofs.Ytckdgmbmjfhodaa.Pure

namespace Go.Proofs.Ytckdgmbmjfhodaa.Pure
open Go.RowKit Go.Proofs.Ytckdgmbmjfhodaa.X Go.Proofs.YtckdgmbmjfhodaaW.PrintWords Go.Proofs.Ytckdgmbmjfhodaa.Bits

theorem max_mod (w : Int) (h1 : 1 ≤ w) (h2 : w ≤ 64) : (18446744073709551615 : Int) % 2 ^ w.toNat = 2 ^ w.toNat - 1 := by
  have hp := pow_pos w.toNat
  have hs := pow_split w h1 h2
  have : (18446744073709551615 : Int) = (2 ^ w.toNat - 1) + 2 ^ w.toNat * (2 ^ (64 - w).toNat - 1) := by
    rw [Int.mul_sub, Int.mul_comm (2 ^ w.toNat), hs]; omega
  rw [this, Int.add_mul_emod_self_left, Int.emod_eq_of_lt (by omega) (by omega)]
def divided (w a b : Int) : Int := if b = 0 then 2 ^ w.toNat - 1 else IntKind.u64.wrap (Int.tdiv a b)
def rested (a b : Int) : Int := if b = 0 then a else Int.tmod a b
theorem div_spec (k : Nat) (w a b : Int) (hk : 65 < k) (h0 : 0 ≤ a) (ha : a < 18446744073709551616) (k0 : 0 ≤ b) (hb : b < 18446744073709551616) :
    spec_DivWord.f k w a b = some (if word w a ∧ word w b then (divided w a b, rested a b, true) else (0, 0, false)) := by
  unfold spec_DivWord.f divided rested
  rw [both_spec k w a b hk h0 ha k0 hb]
  simp only [Option.bind_some, decide_eq_true_eq]
  by_cases h : word w a ∧ word w b
  · rw [if_pos h, if_pos h]
    by_cases hz : b = 0
    · rw [if_pos hz, if_pos hz, if_pos hz, cut_val k w _ hk (by have := h.1.1; omega) h.1.2.1 (by decide) (by decide), max_mod w h.1.1 h.1.2.1]; rfl
    · rw [if_neg hz, if_neg hz, if_neg hz]
  · rw [if_neg h, if_neg h]
theorem div_impl (w a b : Int) (h0 : 0 ≤ a) (k0 : 0 ≤ b) :
    impl_DivWord.f w a b = some (if word w a ∧ word w b then (divided w a b, rested a b, true) else (0, 0, false)) := by
  unfold impl_DivWord.f divided rested bits_Div64.f
  rw [both_impl w a b h0 k0]
  simp only [Option.bind_some, decide_eq_true_eq]
  by_cases h : word w a ∧ word w b
  · rw [if_pos h, if_pos h]
    by_cases hz : b = 0
    · rw [if_pos hz, if_pos hz, if_pos hz, mask_f w h.1.1 h.1.2.1]; rfl
    · rw [if_neg hz, if_neg hz, if_neg hz, if_pos ⟨trivial, by omega⟩]; rfl
  · rw [if_neg h, if_neg h]
def ap (w op a b : Int) : Int :=
  if op = 3 then IntKind.u64.wrap (a + b) % 2 ^ w.toNat else if op = 4 then IntKind.u64.wrap (a - b) % 2 ^ w.toNat else if op = 5 then IntKind.u64.wrap (a * b) % 2 ^ w.toNat
  else if op = 6 then divided w a b else if op = 7 then rested a b else if op = 8 ∨ op = 17 then Go.bits .and .u64 a b else if op = 9 ∨ op = 18 then Go.bits .or .u64 a b
  else if op = 10 then Go.bits .xor .u64 a b else if op = 11 then shifted w a b true else if op = 12 then shifted w a b false
  else if op = 14 then (if a = b then 1 else 0) else if op = 15 then (if a < b then 1 else 0) else if op = 16 then (if sgn w a < sgn w b then 1 else 0) else 0
theorem word_mod (w x : Int) (h1 : 1 ≤ w) (h2 : w ≤ 64) : word w (x % 2 ^ w.toNat) :=
  ⟨h1, h2, Int.emod_nonneg _ (by have := pow_pos w.toNat; omega), Int.emod_lt_of_pos _ (pow_pos _)⟩
theorem pow_two (w : Int) (h1 : 1 ≤ w) : (2 : Int) ≤ 2 ^ w.toNat := by
  rw [pow_half w h1]; have := pow_pos (w - 1).toNat; omega
theorem word_bool (w : Int) (h1 : 1 ≤ w) (h2 : w ≤ 64) (p : Prop) [Decidable p] : word w (if p then 1 else 0) := by
  have := pow_two w h1
  by_cases h : p
  · rw [if_pos h]; exact ⟨h1, h2, by omega, by omega⟩
  · rw [if_neg h]; exact ⟨h1, h2, by omega, by omega⟩
theorem word_nat {w a : Int} (h : word w a) : ∃ n : Nat, a = n ∧ n < 2 ^ w.toNat ∧ n < 2 ^ 64 := by
  obtain ⟨n, rfl⟩ := Int.eq_ofNat_of_zero_le h.2.2.1
  have := h.2.2.2
  have h3 := word_lt h
  refine ⟨n, rfl, ?_, by omega⟩
  have e : ((2 ^ w.toNat : Nat) : Int) = 2 ^ w.toNat := by rw [Int.natCast_pow]; rfl
  rw [← e] at this
  omega
theorem nat_word {w : Int} (h1 : 1 ≤ w) (h2 : w ≤ 64) {n : Nat} (h : n < 2 ^ w.toNat) : word w (n : Int) := by
  refine ⟨h1, h2, by omega, ?_⟩
  have e : ((2 ^ w.toNat : Nat) : Int) = 2 ^ w.toNat := by rw [Int.natCast_pow]; rfl
  rw [← e]
  omega
theorem word_and {w a b : Int} (ha : word w a) (hb : word w b) : word w (Go.bits .and .u64 a b) := by
  obtain ⟨n, rfl, h1, h2⟩ := word_nat ha
  obtain ⟨m, rfl, h3, h4⟩ := word_nat hb
  rw [and_u64 n m h2 h4]
  exact nat_word ha.1 ha.2.1 (Nat.and_lt_two_pow _ h3)
theorem word_or {w a b : Int} (ha : word w a) (hb : word w b) : word w (Go.bits .or .u64 a b) := by
  obtain ⟨n, rfl, h1, h2⟩ := word_nat ha
  obtain ⟨m, rfl, h3, h4⟩ := word_nat hb
  rw [or_u64 n m h2 h4]
  exact nat_word ha.1 ha.2.1 (Nat.or_lt_two_pow h1 h3)
theorem word_xor {w a b : Int} (ha : word w a) (hb : word w b) : word w (Go.bits .xor .u64 a b) := by
  obtain ⟨n, rfl, h1, h2⟩ := word_nat ha
  obtain ⟨m, rfl, h3, h4⟩ := word_nat hb
  rw [xor_u64 n m h2 h4]
  exact nat_word ha.1 ha.2.1 (Nat.xor_lt_two_pow h1 h3)
theorem word_divided {w a b : Int} (ha : word w a) (hb : word w b) : word w (divided w a b) := by
  have h1 := ha.2.2.1
  have h2 := ha.2.2.2
  have h3 := hb.2.2.1
  have h4 := word_lt ha
  have h5 := pow_pos w.toNat
  unfold divided
  by_cases hz : b = 0
  · rw [if_pos hz]; exact ⟨ha.1, ha.2.1, by omega, by omega⟩
  · have q0 : 0 ≤ a / b := Int.ediv_nonneg h1 h3
    have q1 : a / b ≤ a := Int.ediv_le_self _ h1
    rw [if_neg hz, Int.tdiv_eq_ediv_of_nonneg h1, u64_id _ q0 (by omega)]
    exact ⟨ha.1, ha.2.1, q0, by omega⟩
theorem word_rested {w a b : Int} (ha : word w a) (hb : word w b) : word w (rested a b) := by
  have h1 := ha.2.2.1
  have h3 := hb.2.2.1
  have h4 := hb.2.2.2
  unfold rested
  by_cases hz : b = 0
  · rw [if_pos hz]; exact ha
  · have q0 : 0 ≤ a % b := Int.emod_nonneg _ hz
    have q1 : a % b < b := Int.emod_lt_of_pos _ (by omega)
    rw [if_neg hz, Int.tmod_eq_emod_of_nonneg h1]
    exact ⟨ha.1, ha.2.1, q0, by omega⟩
theorem word_shifted {w a b : Int} (left : Bool) (ha : word w a) : word w (shifted w a b left) := by
  have h5 := pow_pos w.toNat
  unfold shifted
  by_cases hc : b ≥ w
  · rw [if_pos hc]; exact ⟨ha.1, ha.2.1, by omega, by omega⟩
  · rw [if_neg hc]
    cases left with
    | true => rw [if_pos rfl]; exact word_mod w _ ha.1 ha.2.1
    | false =>
      rw [if_neg (by decide)]
      have q0 : 0 ≤ a / 2 ^ b.toNat := Int.ediv_nonneg ha.2.2.1 (by have := pow_pos b.toNat; omega)
      have q1 : a / 2 ^ b.toNat ≤ a := Int.ediv_le_self _ ha.2.2.1
      exact ⟨ha.1, ha.2.1, q0, by have := ha.2.2.2; omega⟩
theorem op_cases (op : Int) : op = 3 ∨ op = 4 ∨ op = 5 ∨ op = 6 ∨ op = 7 ∨ op = 8 ∨ op = 9 ∨ op = 10 ∨ op = 11 ∨ op = 12 ∨ op = 14 ∨ op = 15 ∨ op = 16 ∨ op = 17 ∨ op = 18 ∨
    (op ≠ 3 ∧ op ≠ 4 ∧ op ≠ 5 ∧ op ≠ 6 ∧ op ≠ 7 ∧ op ≠ 8 ∧ op ≠ 9 ∧ op ≠ 10 ∧ op ≠ 11 ∧ op ≠ 12 ∧ op ≠ 14 ∧ op ≠ 15 ∧ op ≠ 16 ∧ op ≠ 17 ∧ op ≠ 18) := by omega
theorem word_ap {w op a b : Int} (ha : word w a) (hb : word w b) : word w (ap w op a b) := by
  have h1 := ha.1
  have h2 := ha.2.1
  rcases op_cases op with rfl | rfl | rfl | rfl | rfl | rfl | rfl | rfl | rfl | rfl | rfl | rfl | rfl | rfl | rfl | h
  · rw [show ap w 3 a b = IntKind.u64.wrap (a + b) % 2 ^ w.toNat by simp [ap]]; exact word_mod w _ h1 h2
  · rw [show ap w 4 a b = IntKind.u64.wrap (a - b) % 2 ^ w.toNat by simp [ap]]; exact word_mod w _ h1 h2
  · rw [show ap w 5 a b = IntKind.u64.wrap (a * b) % 2 ^ w.toNat by simp [ap]]; exact word_mod w _ h1 h2
  · rw [show ap w 6 a b = divided w a b by simp [ap]]; exact word_divided ha hb
  · rw [show ap w 7 a b = rested a b by simp [ap]]; exact word_rested ha hb
  · rw [show ap w 8 a b = Go.bits .and .u64 a b by simp [ap]]; exact word_and ha hb
  · rw [show ap w 9 a b = Go.bits .or .u64 a b by simp [ap]]; exact word_or ha hb
  · rw [show ap w 10 a b = Go.bits .xor .u64 a b by simp [ap]]; exact word_xor ha hb
  · rw [show ap w 11 a b = shifted w a b true by simp [ap]]; exact word_shifted true ha
  · rw [show ap w 12 a b = shifted w a b false by simp [ap]]; exact word_shifted false ha
  · rw [show ap w 14 a b = (if a = b then 1 else 0) by simp [ap]]; exact word_bool w h1 h2 (a = b)
  · rw [show ap w 15 a b = (if a < b then 1 else 0) by simp [ap]]; exact word_bool w h1 h2 (a < b)
  · rw [show ap w 16 a b = (if sgn w a < sgn w b then 1 else 0) by simp [ap]]; exact word_bool w h1 h2 (sgn w a < sgn w b)
  · rw [show ap w 17 a b = Go.bits .and .u64 a b by simp [ap]]; exact word_and ha hb
  · rw [show ap w 18 a b = Go.bits .or .u64 a b by simp [ap]]; exact word_or ha hb
  · rw [show ap w op a b = 0 by simp [ap, h]]; exact ⟨h1, h2, by omega, pow_pos _⟩
theorem bool_spec (b : Bool) : spec_l2Bool.f b = some (if b = true then 1 else 0) := by
  unfold spec_l2Bool.f; cases b <;> rfl
theorem bool_impl (b : Bool) : impl_truth.f b = some (if b = true then 1 else 0) := by
  unfold impl_truth.f; cases b <;> rfl
theorem do_val (k : Nat) (w op a b : Int) (hk : 145 < k) (ha : word w a) (hb : word w b) : spec_l2Do.f k w op a b = some (ap w op a b) := by
  obtain ⟨k, rfl⟩ : ∃ m, k = m + 2 := ⟨k - 2, by omega⟩
  have h1 := ha.1
  have h2 := ha.2.1
  have c : ∀ (k : Nat) (x : Int), 65 < k → spec_l1Cut.f k w (IntKind.u64.wrap x) = some (IntKind.u64.wrap x % 2 ^ w.toNat) := fun k x hk => cut_val k w _ hk (by omega) h2 (u64_range x).1 (u64_range x).2
  have hd := div_spec (k + 2) w a b (by omega) ha.2.2.1 (word_lt ha) hb.2.2.1 (word_lt hb)
  rw [if_pos ⟨ha, hb⟩] at hd
  unfold spec_l2Do.f ap
  rewrite [hd]
  simp only [Option.bind_some]
  rcases op_cases op with rfl | rfl | rfl | rfl | rfl | rfl | rfl | rfl | rfl | rfl | rfl | rfl | rfl | rfl | rfl | h
  · simp [c (k + 2) _ (by omega)]
  · simp [c (k + 2) _ (by omega)]
  · simp [c (k + 2) _ (by omega)]
  · simp
  · simp
  · simp [spec_l2Do.j0]
  · simp [spec_l2Do.j0, spec_l2Do.j1]
  · simp [spec_l2Do.j0, spec_l2Do.j1]
  · simp [spec_l2Do.j0, spec_l2Do.j1, shift_spec k w a b true (by omega) ha hb.2.2.1]
  · simp [spec_l2Do.j0, spec_l2Do.j1, shift_spec k w a b false (by omega) ha hb.2.2.1]
  · simp [spec_l2Do.j0, spec_l2Do.j1, bool_spec]
  · simp [spec_l2Do.j0, spec_l2Do.j1, bool_spec]
  · simp [spec_l2Do.j0, spec_l2Do.j1, bool_spec, signed_spec k w a (by omega) ha, signed_spec k w b (by omega) hb]
  · simp [spec_l2Do.j0]
  · simp [spec_l2Do.j0, spec_l2Do.j1]
  · simp [spec_l2Do.j0, spec_l2Do.j1, h]
theorem apply_val (k : Nat) (w op a b : Int) (hk : 3 < k) (ha : word w a) (hb : word w b) : impl_apply.f k w op a b = some (ap w op a b) := by
  obtain ⟨k, rfl⟩ : ∃ m, k = m + 3 := ⟨k - 3, by omega⟩
  have h1 := ha.1
  have h2 := ha.2.1
  have hm := mask_f w h1 h2
  have m : ∀ x : Int, word w x → Go.bits .and .u64 x (2 ^ w.toNat - 1) = x := fun x hx => by rw [and_mask x _ hx.2.2.1 (word_lt hx) (by omega), cut_word w x hx]
  have c : ∀ x : Int, Go.bits .and .u64 (IntKind.u64.wrap x) (2 ^ w.toNat - 1) = IntKind.u64.wrap x % 2 ^ w.toNat := fun x => and_mask _ _ (u64_range x).1 (u64_range x).2 (by omega)
  have hd := div_impl w a b ha.2.2.1 hb.2.2.1
  rw [if_pos ⟨ha, hb⟩] at hd
  have m0 : Go.bits .and .u64 0 (2 ^ w.toNat - 1) = 0 := m 0 ⟨h1, h2, by omega, pow_pos _⟩
  unfold impl_apply.f ap
  rcases op_cases op with rfl | rfl | rfl | rfl | rfl | rfl | rfl | rfl | rfl | rfl | rfl | rfl | rfl | rfl | rfl | h
  · simp [hm, c]
  · simp [hm, c]
  · simp [hm, c]
  · simp [hm, hd, m _ (word_divided ha hb)]
  · simp [hm, hd, m _ (word_rested ha hb)]
  · simp [impl_apply.j0, hm, m _ (word_and ha hb)]
  · simp [impl_apply.j0, impl_apply.j1, hm, m _ (word_or ha hb)]
  · simp [impl_apply.j0, impl_apply.j1, hm, m _ (word_xor ha hb)]
  · simp [impl_apply.j0, impl_apply.j1, impl_apply.j2, hm, shift_impl w a b true ha hb.2.2.1, m _ (word_shifted true ha)]
  · simp [impl_apply.j0, impl_apply.j1, impl_apply.j2, hm, shift_impl w a b false ha hb.2.2.1, m _ (word_shifted false ha)]
  · simp [impl_apply.j0, impl_apply.j1, impl_apply.j2, hm, bool_impl, m _ (word_bool w h1 h2 (a = b))]
  · simp [impl_apply.j0, impl_apply.j1, impl_apply.j2, hm, bool_impl, m _ (word_bool w h1 h2 (a < b))]
  · simp [impl_apply.j0, impl_apply.j1, impl_apply.j2, hm, bool_impl, signed_impl w a ha, signed_impl w b hb, m _ (word_bool w h1 h2 (sgn w a < sgn w b))]
  · simp [impl_apply.j0, hm, m _ (word_and ha hb)]
  · simp [impl_apply.j0, impl_apply.j1, hm, m _ (word_or ha hb)]
  · simp [impl_apply.j0, impl_apply.j1, impl_apply.j2, h, hm, m0]
end Go.Proofs.Ytckdgmbmjfhodaa.Pure

namespace Go.Proofs.Ytckdgmbmjfhodaa.Pure
open Go.RowKit Go.Proofs.Ytckdgmbmjfhodaa.X Go.Proofs.YtckdgmbmjfhodaaW.PrintWords Go.Proofs.YtckdgmbmjfhodaaW.PrintLast Go.Proofs.Ytckdgmbmjfhodaa.Bits

abbrev Nd := S52
/-- What an operator takes: how many operands, of which kind, and the kind of its result. -/
def need (op : Int) : Int × Int × Int :=
  if op = 1 ∨ op = 2 then (0, 1, 1) else if op = 20 then (0, 2, 2) else if op = 13 then (1, 1, 1) else if op = 19 then (1, 2, 2)
  else if 3 ≤ op ∧ op ≤ 12 then (2, 1, 1) else if 14 ≤ op ∧ op ≤ 16 then (2, 1, 2) else if op = 17 ∨ op = 18 then (2, 2, 2) else (0, 0, 0)
theorem isVars_val (a : Int) : impl_isVars.f a = some (decide (1 ≤ a ∧ a ≤ 4)) := by
  unfold impl_isVars.f
  by_cases h : a ≥ 1
  · rw [if_pos h]; simp [show 1 ≤ a from h]
  · rw [if_neg h]; simp [show ¬ 1 ≤ a from h]
theorem need_spec (k : Nat) (op : Int) (hk : 3 < k) : spec_l2Need.f k op = some (need op) := by
  obtain ⟨k, rfl⟩ : ∃ m, k = m + 1 := ⟨k - 1, by omega⟩
  unfold spec_l2Need.f need
  by_cases h1 : op = 1
  · simp [h1, spec_l2Need.j0]
  · by_cases h2 : op = 2
    · simp [h2, spec_l2Need.j0]
    · have hb : (op == 2) = false := by simpa using h2
      rw [if_neg h1, hb, if_neg (by omega)]
      simp only [spec_l2Need.j0]
      rw [if_neg (by decide)]
      by_cases h3 : op = 20
      · simp [h3]
      · rw [if_neg h3, if_neg h3]
        by_cases h4 : op = 13
        · simp [h4]
        · rw [if_neg h4, if_neg h4]
          by_cases h5 : op = 19
          · simp [h5]
          · rw [if_neg h5, if_neg h5, l1In_val, l1In_val]
            simp only [Option.bind_some, decide_eq_true_eq]
            by_cases h6 : 3 ≤ op ∧ op ≤ 12
            · rw [if_pos h6, if_pos h6]
            · rw [if_neg h6, if_neg h6]
              by_cases h7 : 14 ≤ op ∧ op ≤ 16
              · rw [if_pos h7, if_pos h7]
              · rw [if_neg h7, if_neg h7]
                by_cases h8 : op = 17
                · simp [h8]
                · by_cases h9 : op = 18
                  · simp [h9]
                  · rw [if_neg h8, if_neg h9, if_neg (by omega)]
/-- The program's own table: of a leaf the operands' kind is 0. -/
def needI (op : Int) : Int × Int × Int :=
  if op = 1 ∨ op = 2 then (0, 0, 1) else if op = 20 then (0, 0, 2) else if op = 13 then (1, 1, 1) else if op = 19 then (1, 2, 2)
  else if 3 ≤ op ∧ op ≤ 12 then (2, 1, 1) else if 14 ≤ op ∧ op ≤ 16 then (2, 1, 2) else if op = 17 ∨ op = 18 then (2, 2, 2) else (0, 0, 0)
theorem needI_eq (op : Int) : (needI op).1 = (need op).1 ∧ (needI op).2.2 = (need op).2.2 ∧ ((need op).1 ≠ 0 → (needI op).2.1 = (need op).2.1) := by
  unfold needI need; (repeat' split) <;> simp
theorem need_impl (k : Nat) (op : Int) (hk : 3 < k) : impl_operandsOf.f k op = some (needI op) := by
  obtain ⟨k, rfl⟩ : ∃ m, k = m + 3 := ⟨k - 3, by omega⟩
  unfold impl_operandsOf.f needI
  by_cases h1 : op = 1
  · simp [h1, impl_operandsOf.j0]
  · by_cases h2 : op = 2
    · simp [h2, impl_operandsOf.j0]
    · have hb : (op == 2) = false := by simpa using h2
      rw [if_neg h1, hb, if_neg (by omega)]
      simp only [impl_operandsOf.j0]
      rw [if_neg (by decide)]
      by_cases h3 : op = 20
      · simp [h3]
      · rw [if_neg h3, if_neg h3]
        by_cases h4 : op = 13
        · simp [h4]
        · rw [if_neg h4, if_neg h4]
          by_cases h5 : op = 19
          · simp [h5]
          · rw [if_neg h5, if_neg h5]
            have e1 : (if op ≥ 3 then impl_operandsOf.j1 (k + 2) op (decide (op ≤ 12)) else impl_operandsOf.j1 (k + 2) op false) = impl_operandsOf.j1 (k + 2) op (decide (3 ≤ op ∧ op ≤ 12)) := by
              by_cases h : op ≥ 3
              · rw [if_pos h]; congr 1; simp [show 3 ≤ op from h]
              · rw [if_neg h]; congr 1; simp [show ¬ 3 ≤ op from h]
            rw [e1]
            simp only [impl_operandsOf.j1, decide_eq_true_eq]
            by_cases h6 : 3 ≤ op ∧ op ≤ 12
            · rw [if_pos h6, if_pos h6]
            · rw [if_neg h6, if_neg h6]
              have e2 : (if op ≥ 14 then impl_operandsOf.j2 (k + 1) op (decide (op ≤ 16)) else impl_operandsOf.j2 (k + 1) op false) = impl_operandsOf.j2 (k + 1) op (decide (14 ≤ op ∧ op ≤ 16)) := by
                by_cases h : op ≥ 14
                · rw [if_pos h]; congr 1; simp [show 14 ≤ op from h]
                · rw [if_neg h]; congr 1; simp [show ¬ 14 ≤ op from h]
              rw [e2]
              simp only [impl_operandsOf.j2, decide_eq_true_eq]
              by_cases h7 : 14 ≤ op ∧ op ≤ 16
              · rw [if_pos h7, if_pos h7]
              · rw [if_neg h7, if_neg h7]
                by_cases h8 : op = 17
                · simp [h8]
                · by_cases h9 : op = 18
                  · simp [h9]
                  · rw [if_neg h8, if_neg h9, if_neg (by omega)]
theorem need_range (op : Int) : 0 ≤ (need op).1 ∧ (need op).1 ≤ 2 ∧ 0 ≤ (need op).2.2 ∧ (need op).2.2 ≤ 2 ∧ 0 ≤ (need op).2.1 ∧ (need op).2.1 ≤ 2 := by
  unfold need; (repeat' split) <;> decide
theorem need_is (op : Int) : ∃ m p r, need op = (m, p, r) ∧ 0 ≤ m ∧ m ≤ 2 ∧ 0 ≤ r ∧ r ≤ 2 ∧ 0 ≤ p ∧ p ≤ 2 :=
  ⟨(need op).1, (need op).2.1, (need op).2.2, rfl, need_range op⟩
attribute [irreducible] need needI
/-- Does a node's number fit its operator? -/
def leafB (w v : Int) (x : Nd) : Bool :=
  if x.f0 = 1 then decide (word w x.f1) else if x.f0 = 2 then decide (x.f1 < v) else if x.f0 = 20 then decide (x.f1 ≤ 1) else decide (x.f1 = 0)
theorem leaf_spec (k : Nat) (w v a b : Int) (hk : 65 < k) (hv0 : 0 ≤ v) (hv : v ≤ 4) (h0 : 0 ≤ b) (h1 : b < 18446744073709551616) : spec_l2N.f k w v a b = some (leafB w v ⟨a, b⟩) := by
  unfold spec_l2N.f leafB
  by_cases h2 : a = 1
  · rw [if_pos h2, if_pos h2, goodWord_spec k w b hk h0 h1]; rfl
  · rw [if_neg h2, if_neg h2, u64_id v hv0 (by omega)]
    by_cases h3 : a = 2
    · rw [if_pos h3, if_pos h3]
    · rw [if_neg h3, if_neg h3]
      by_cases h4 : a = 20
      · rw [if_pos h4, if_pos h4]; congr 1; rw [Bool.eq_iff_iff]; simp only [decide_eq_true_eq]; omega
      · rw [if_neg h4, if_neg h4]; first | done | rfl | (congr 1; first | done | rfl | (rw [Bool.eq_iff_iff]; simp))
theorem leaf_impl (w v a b : Int) (hv0 : 0 ≤ v) (hv : v ≤ 4) (h0 : 0 ≤ b) : impl_isLeafRight.f w v a b = some (leafB w v ⟨a, b⟩) := by
  unfold impl_isLeafRight.f leafB
  by_cases h2 : a = 1
  · rw [if_pos h2, if_pos h2, goodWord_impl w b h0]; rfl
  · rw [if_neg h2, if_neg h2, u64_id v hv0 (by omega)]
    by_cases h3 : a = 2
    · rw [if_pos h3, if_pos h3]
    · rw [if_neg h3, if_neg h3]
      by_cases h4 : a = 20
      · rw [if_pos h4, if_pos h4]
      · rw [if_neg h4, if_neg h4]; first | done | rfl | (congr 1; first | done | rfl | (rw [Bool.eq_iff_iff]; simp))
/-- One node over the stack of kinds; the top is the list's head. -/
def stepK (w v : Int) (st : List Int) (x : Nd) : Option (List Int) :=
  if (need x.f0).2.2 = 0 then none else if leafB w v x = true then
    if (st.length : Int) < (need x.f0).1 then none else if (st.take (need x.f0).1.toNat).all (fun y => y == (need x.f0).2.1) = true then some ((need x.f0).2.2 :: st.drop (need x.f0).1.toNat) else none
  else none
def runK (w v : Int) : List Nd → List Int → Option (List Int)
  | [], st => some st
  | x :: t, st => (stepK w v st x).bind (runK w v t)
theorem runK_len (w v : Int) (t : List Nd) : ∀ st st', runK w v t st = some st' → st'.length ≤ st.length + t.length := by
  induction t with
  | nil => intro st st' h; simp only [runK, Option.some.injEq] at h; subst h; simp
  | cons x t ih =>
    intro st st' h
    simp only [runK, Option.bind_eq_some_iff] at h
    obtain ⟨s1, h1, h2⟩ := h
    have h3 := ih _ _ h2
    unfold stepK at h1
    split at h1
    · cases h1
    · split at h1
      · split at h1
        · cases h1
        · split at h1
          · obtain rfl := Option.some.inj h1
            simp only [List.length_cons, List.length_drop] at h3 ⊢
            omega
          · cases h1
      · cases h1
theorem rd_last (st : List Int) (a : Int) : rd ((a :: st).reverse) (((a :: st).reverse.length : Int) - 1) = a := by
  have : (((a :: st).reverse.length : Int) - 1).toNat = st.length := by simp
  unfold rd
  rw [this]
  simp [List.getD]
theorem take_last (st : List Int) (a : Int) (n : Nat) (h : n = st.length) : (a :: st).reverse.take n = st.reverse := by
  subst h
  rw [List.reverse_cons, List.take_left' (by simp)]
/-- The reference pops one part after another. -/
theorem spec_pop (w v part own : Int) (t : List Nd) (n i : Int) (m : Nat) : ∀ (st : List Int) (k : Nat), m ≤ st.length → st.length ≤ 48 → (m : Int) ≤ 2 → m + 1 < k →
    ∃ k', k ≤ k' + m + 1 ∧ spec_l2Kind.l1 k w v st.reverse m part own t n i =
      if (st.take m).all (fun y => y == part) = true then spec_l2Kind.l0 k' w v ((st.drop m).reverse ++ [own]) t n (wrap64 (i + 1)) else some 0 := by
  induction m with
  | zero =>
    intro st k hm hl h2 hk
    obtain ⟨k, rfl⟩ : ∃ m, k = m + 1 := ⟨k - 1, by omega⟩
    refine ⟨k, by omega, ?_⟩
    simp only [spec_l2Kind.l1]
    rewrite [if_neg (by omega), if_pos (by simp; omega)]
    simp
  | succ m ih =>
    intro st k hm hl h2 hk
    obtain ⟨k, rfl⟩ : ∃ m, k = m + 1 := ⟨k - 1, by omega⟩
    obtain ⟨a, st, rfl⟩ : ∃ a s, st = a :: s := by cases st with | nil => simp at hm | cons a s => exact ⟨a, s, rfl⟩
    have hlen : ((a :: st).reverse.length : Int) = (st.length : Int) + 1 := by simp
    simp only [List.length_cons] at hm hl
    have e1 : wrap64 (((a :: st).reverse.length : Int) - 1) = ((a :: st).reverse.length : Int) - 1 := wrap64_id _ (by omega) (by omega)
    have e2 : wrap64 (((m + 1 : Nat) : Int) - 1) = (m : Int) := by rw [wrap64_id _ (by omega) (by omega)]; omega
    have e3 : (a :: st).reverse.take (((a :: st).reverse.length : Int) - 1).toNat = st.reverse := take_last st a _ (by omega)
    obtain ⟨k', hk', he⟩ := ih st k (by omega) (by omega) (by omega) (by omega)
    refine ⟨k', by omega, ?_⟩
    simp only [spec_l2Kind.l1]
    rewrite [e1, rd_last, if_pos (by omega), if_pos (by omega), if_pos (by omega), e2]
    by_cases h : a = part
    · rewrite [if_pos h, if_pos (by omega), e3, he]
      simp [h]
    · rewrite [if_neg h, if_neg (by simp [h])]
      rfl
def okNodes (t : List Nd) : Prop := ∀ x ∈ t, 0 ≤ x.f1 ∧ x.f1 < 18446744073709551616
theorem rd_at {t : List Nd} {i : Nat} (h : i < t.length) : rd_T52 t (i : Int) = t[i] := by
  unfold rd_T52
  rw [Int.toNat_natCast, List.getD_eq_getElem?_getD, List.getElem?_eq_getElem h]; rfl
def top (r : Option (List Int)) : Int := match r with
  | some [x] => x
  | _ => 0
theorem spec_l2Kind_loop (w v : Int) (t : List Nd) (hok : okNodes t) (hv0 : 0 ≤ v) (hv : v ≤ 4) (ht : t.length ≤ 48) (d : Nat) : ∀ (i : Nat) (st : List Int) (k : Nat), i + d = t.length → st.length ≤ i → 5 * d + 70 < k →
    spec_l2Kind.l0 k w v st.reverse t (t.length : Int) (i : Int) = some (top (runK w v (t.drop i) st)) := by
  induction d with
  | zero =>
    intro i st k hi hs hk
    obtain ⟨k, rfl⟩ : ∃ m, k = m + 1 := ⟨k - 1, by omega⟩
    simp only [spec_l2Kind.l0]
    rewrite [if_neg (by omega), List.drop_eq_nil_of_le (by omega)]
    simp only [runK, List.length_reverse]
    match st with
    | [] => simp [top]
    | [a] => simp [top, rd]
    | a :: b :: s => rewrite [if_neg (by simp only [List.length_cons]; omega)]; rfl
  | succ d ih =>
    intro i st k hi hs hk
    obtain ⟨k, rfl⟩ : ∃ m, k = m + 2 := ⟨k - 2, by omega⟩
    have hit : i < t.length := by omega
    have q0 : (0 : Int) ≤ (i : Int) := by omega
    have q1 : (i : Int) < (t.length : Int) := by omega
    have q2 : 3 < k + 1 := by omega
    have q3 : 65 < k + 1 := by omega
    have q4 : i + 1 + d = t.length := by omega
    have q5 : st.length ≤ 48 := by omega
    have e1 : wrap64 ((i : Int) + 1) = ((i + 1 : Nat) : Int) := by rw [wrap64_id _ (by omega) (by omega)]; omega
    have hx := hok t[i] (List.getElem_mem hit)
    obtain ⟨mm, pp, rr, hn, b0, b1, b2, b3, b4, b5⟩ := need_is t[i].f0
    have hdrop : t.drop i = t[i] :: t.drop (i + 1) := List.drop_eq_getElem_cons hit
    simp only [spec_l2Kind.l0]
    rewrite [if_pos q1, if_pos q0, if_pos q1, rd_at hit, need_spec _ _ q2, hn]
    simp only [Option.bind_some]
    rewrite [hdrop]
    simp only [runK]
    unfold stepK
    simp only [hn]
    clear hdrop
    by_cases h0 : rr = 0
    · rewrite [if_pos h0, if_pos h0]
      simp only [spec_l2Kind.j2, if_true]
      rfl
    · rewrite [if_neg h0, if_neg h0, leaf_spec _ w v _ _ q3 hv0 hv hx.1 hx.2]
      clear hx
      simp only [Option.bind_some]
      by_cases h1 : leafB w v t[i] = true
      · rewrite [if_pos h1, if_pos h1]
        simp only [spec_l2Kind.j2, List.length_reverse]
        by_cases h2 : (st.length : Int) < mm
        · rewrite [if_pos (by simpa using h2), if_pos h2]
          rfl
        · rewrite [if_neg (by simpa using h2), if_neg h2]
          obtain ⟨m, hm⟩ := Int.eq_ofNat_of_zero_le b0
          rw [hm]
          have hm2 : (m : Int) ≤ 2 := by omega
          obtain ⟨k', hk', he⟩ := spec_pop w v pp rr t (t.length : Int) (i : Int) m st k (by omega) q5 hm2 (by omega)
          rewrite [he, Int.toNat_natCast, e1]
          by_cases h3 : (st.take m).all (fun y => y == pp) = true
          · rewrite [if_pos h3, if_pos h3]
            have := ih (i + 1) (rr :: st.drop m) k' q4 (by simp only [List.length_cons, List.length_drop]; omega) (by omega)
            rw [List.reverse_cons] at this
            rw [this]
            rfl
          · rewrite [if_neg h3, if_neg h3]
            rfl
      · rewrite [if_neg h1, if_neg h1]
        simp only [spec_l2Kind.j2, if_true]
        rfl
/-- The kind of a good term, else 0. -/
def kindT (w v : Int) (t : List Nd) : Int :=
  if 1 ≤ w ∧ w ≤ 64 ∧ 1 ≤ v ∧ v ≤ 4 ∧ 1 ≤ t.length ∧ t.length ≤ 48 then top (runK w v t []) else 0
theorem l2Kind_val (k : Nat) (w v : Int) (t : List Nd) (hok : okNodes t) (hk : 400 < k) : spec_l2Kind.f k w v t = some (kindT w v t) := by
  obtain ⟨k, rfl⟩ : ∃ m, k = m + 1 := ⟨k - 1, by omega⟩
  unfold spec_l2Kind.f kindT
  rw [l1Wide_val, l1In_val, l1In_val]
  simp only [Option.bind_some, decide_eq_true_eq, spec_l2Kind.j0]
  by_cases h1 : 1 ≤ w ∧ w ≤ 64
  · rewrite [if_pos h1]
    by_cases h2 : 1 ≤ v ∧ v ≤ 4
    · rewrite [if_pos h2]
      by_cases h3 : 1 ≤ (t.length : Int) ∧ (t.length : Int) ≤ 48
      · rewrite [if_neg (by simp [h3]), if_pos (by omega)]
        have := spec_l2Kind_loop w v t hok (by omega) h2.2 (by omega) t.length 0 [] k (by omega) (by simp) (by omega)
        simpa using this
      · rewrite [if_pos (by rw [decide_eq_false h3]; rfl), if_neg (by omega)]
        rfl
    · rewrite [if_neg h2, if_pos trivial, if_neg (by omega)]
      rfl
  · rewrite [if_neg h1, if_pos trivial, if_neg (by omega)]
    rfl
theorem goodTerm_spec (k : Nat) (w v : Int) (t : List Nd) (hok : okNodes t) (hk : 400 < k) : spec_GoodTerm.f k w v t = some (decide (kindT w v t > 0)) := by
  unfold spec_GoodTerm.f
  rw [l2Kind_val k w v t hok hk]
  rfl
theorem drop_rev (st : List Int) (m : Nat) (h : m ≤ st.length) : st.reverse.drop (st.length - m) = (st.take m).reverse := by
  rw [List.drop_reverse]; congr 2; omega
theorem take_rev (st : List Int) (m : Nat) (h : m ≤ st.length) : st.reverse.take (st.length - m) = (st.drop m).reverse := by
  rw [List.take_reverse]; congr 2; omega
theorem any_ne_all (l : List Int) (p : Int) : (l.reverse.any fun x => x != p) = !(l.all fun y => y == p) := by
  rw [List.any_reverse, List.not_all_eq_any_not]
  rfl
/-- The program's verdict: one value remains. -/
def oneLeft (r : Option (List Int)) : Bool := match r with
  | some [_] => true
  | _ => false
theorem impl_GoodTerm_loop (w v : Int) (t : List Nd) (hok : okNodes t) (hv0 : 0 ≤ v) (hv : v ≤ 4) (ht : t.length ≤ 48) (d : Nat) : ∀ (i : Nat) (st : List Int) (k : Nat), i + d = t.length → st.length ≤ i → d + 10 < k →
    impl_GoodTerm.l0 k w v st.reverse t (t.length : Int) (i : Int) = some (oneLeft (runK w v (t.drop i) st)) := by
  induction d with
  | zero =>
    intro i st k hi hs hk
    obtain ⟨k, rfl⟩ : ∃ m, k = m + 1 := ⟨k - 1, by omega⟩
    simp only [impl_GoodTerm.l0]
    rw [if_neg (by omega), List.drop_eq_nil_of_le (by omega)]
    simp only [runK, List.length_reverse]
    match st with
    | [] => rfl
    | [a] => rfl
    | a :: b :: s => simp only [List.length_cons, oneLeft, Option.some.injEq]; rw [beq_eq_false_iff_ne]; omega
  | succ d ih =>
    intro i st k hi hs hk
    obtain ⟨k, rfl⟩ : ∃ m, k = m + 1 := ⟨k - 1, by omega⟩
    have hit : i < t.length := by omega
    have q0 : (0 : Int) ≤ (i : Int) := by omega
    have q1 : (i : Int) < (t.length : Int) := by omega
    have q2 : 3 < k := by omega
    have q4 : i + 1 + d = t.length := by omega
    have q5 : st.length ≤ 48 := by omega
    have e1 : wrap64 ((i : Int) + 1) = ((i + 1 : Nat) : Int) := by rw [wrap64_id _ (by omega) (by omega)]; omega
    have hx := hok t[i] (List.getElem_mem hit)
    obtain ⟨mm, pp, rr, hn, b0, b1, b2, b3, b4, b5⟩ := need_is t[i].f0
    obtain ⟨n1, n2, n3⟩ := needI_eq t[i].f0
    rw [hn] at n1 n2 n3
    simp only at n1 n2 n3
    have hdrop : t.drop i = t[i] :: t.drop (i + 1) := List.drop_eq_getElem_cons hit
    simp only [impl_GoodTerm.l0]
    rewrite [if_pos q1, if_pos q0, if_pos q1, rd_at hit, need_impl _ _ q2]
    simp only [Option.bind_some]
    rewrite [n1, n2, hdrop]
    simp only [runK]
    unfold stepK
    simp only [hn]
    clear hdrop n1 n2 hn
    by_cases h0 : rr = 0
    · rewrite [if_pos h0, if_pos h0]
      rfl
    · rewrite [if_neg h0, if_neg h0, leaf_impl w v _ _ hv0 hv hx.1]
      clear hx
      simp only [Option.bind_some]
      by_cases h1 : leafB w v t[i] = true
      · rewrite [if_pos h1, if_pos h1]
        clear h1
        have hl : (st.reverse.length : Int) = (st.length : Int) := by simp
        obtain ⟨m, hm⟩ := Int.eq_ofNat_of_zero_le b0
        subst hm
        have e2 : wrap64 ((st.reverse.length : Int) - (m : Int)) = (st.length : Int) - (m : Int) := by rw [wrap64_id _ (by omega) (by omega), hl]
        rewrite [e2]
        by_cases h2 : (st.length : Int) < (m : Int)
        · rewrite [if_pos (by omega), if_pos h2]
          rfl
        · have hms : m ≤ st.length := by omega
          have e3 : ((st.length : Int) - (m : Int)).toNat = st.length - m := by omega
          rewrite [if_neg (by omega), if_pos (by omega), if_pos (by omega), if_neg h2, e3, drop_rev st m hms, take_rev st m hms]
          unfold impl_GoodTerm_any.f
          simp only [Option.bind_some]
          rewrite [any_ne_all, Int.toNat_natCast]
          have hpart : ((st.take m).all fun y => y == (needI t[i].f0).2.1) = ((st.take m).all fun y => y == pp) := by
            by_cases hz : (m : Int) = 0
            · obtain rfl : m = 0 := by omega
              rfl
            · rw [n3 hz]
          rewrite [hpart]
          clear hpart n3
          by_cases h3 : (st.take m).all (fun y => y == pp) = true
          · rewrite [if_neg (by rw [h3]; decide), if_pos h3, if_pos (by simp; omega), e1]
            have := ih (i + 1) (rr :: st.drop m) k q4 (by simp only [List.length_cons, List.length_drop]; omega) (by omega)
            rw [List.reverse_cons] at this
            exact this
          · rewrite [if_pos (by simpa using h3), if_neg h3]
            rfl
      · rewrite [if_neg h1, if_neg h1]
        rfl
theorem step_pos (w v : Int) (st : List Int) (x : Nd) (st' : List Int) (h : stepK w v st x = some st') (hs : ∀ y ∈ st, y = 1 ∨ y = 2) : ∀ y ∈ st', y = 1 ∨ y = 2 := by
  obtain ⟨mm, pp, rr, hn, b0, b1, b2, b3, b4, b5⟩ := need_is x.f0
  unfold stepK at h
  rw [hn] at h
  simp only at h
  split at h
  · cases h
  · split at h
    · split at h
      · cases h
      · split at h
        · obtain rfl := Option.some.inj h
          intro y hy
          rcases List.mem_cons.1 hy with rfl | hy
          · omega
          · exact hs y (List.mem_of_mem_drop hy)
        · cases h
    · cases h
theorem run_pos (w v : Int) (t : List Nd) : ∀ st st', runK w v t st = some st' → (∀ y ∈ st, y = 1 ∨ y = 2) → ∀ y ∈ st', y = 1 ∨ y = 2 := by
  induction t with
  | nil => intro st st' h hs; simp only [runK, Option.some.injEq] at h; subst h; exact hs
  | cons x t ih =>
    intro st st' h hs
    simp only [runK, Option.bind_eq_some_iff] at h
    obtain ⟨s1, h1, h2⟩ := h
    exact ih _ _ h2 (step_pos w v st x s1 h1 hs)
theorem oneLeft_top (w v : Int) (t : List Nd) : oneLeft (runK w v t []) = decide (top (runK w v t []) > 0) := by
  cases h : runK w v t [] with
  | none => rfl
  | some st =>
    have hp := run_pos w v t [] st h (fun y hy => absurd hy (by simp))
    match st with
    | [] => rfl
    | [a] => have := hp a (by simp); show true = decide (a > 0); symm; exact decide_eq_true (by omega)
    | a :: b :: s => rfl
theorem goodTerm_impl (k : Nat) (w v : Int) (t : List Nd) (hok : okNodes t) (hk : 400 < k) : impl_GoodTerm.f k w v t = some (decide (kindT w v t > 0)) := by
  obtain ⟨k, rfl⟩ : ∃ m, k = m + 1 := ⟨k - 1, by omega⟩
  unfold impl_GoodTerm.f kindT
  rw [isWide_val, isVars_val]
  simp only [Option.bind_some, decide_eq_true_eq, impl_GoodTerm.j0]
  by_cases h1 : 1 ≤ w ∧ w ≤ 64
  · rewrite [if_pos h1]
    by_cases h2 : 1 ≤ v ∧ v ≤ 4
    · rewrite [if_pos h2]
      by_cases h3 : (t.length : Int) < 1
      · rewrite [if_pos h3, if_pos trivial, if_neg (by omega)]
        rfl
      · rewrite [if_neg h3]
        by_cases h4 : (t.length : Int) > 48
        · rewrite [if_pos h4, if_neg (by omega)]
          rfl
        · rewrite [if_neg h4, if_pos (by omega)]
          have := impl_GoodTerm_loop w v t hok (by omega) h2.2 (by omega) t.length 0 [] k (by omega) (by simp) (by omega)
          rw [List.drop_zero] at this
          rw [← oneLeft_top]
          exact this
    · rewrite [if_neg h2, if_pos trivial, if_neg (by omega)]
      rfl
  · rewrite [if_neg h1, if_pos trivial, if_neg (by omega)]
    rfl
end Go.Proofs.Ytckdgmbmjfhodaa.Pure

namespace Go.Proofs.Ytckdgmbmjfhodaa.Pure
open Go.RowKit Go.Proofs.Ytckdgmbmjfhodaa.X Go.Proofs.YtckdgmbmjfhodaaW.PrintWords Go.Proofs.YtckdgmbmjfhodaaW.PrintLast Go.Proofs.Ytckdgmbmjfhodaa.Bits

abbrev Nl := S54
def conv (x : Nl) : Nd := ⟨x.f0, x.f1⟩
theorem rdl_at {t : List Nl} {i : Nat} (h : i < t.length) : rd_T54 t (i : Int) = t[i] := by
  unfold rd_T54
  rw [Int.toNat_natCast, List.getD_eq_getElem?_getD, List.getElem?_eq_getElem h]; rfl
theorem sz_val (l : List Nl) (hl : l.length ≤ 9223372036854775807) : laws_szNodeS.f l 1048576 = some (if 1048576 < l.length then -1 else 1048576 - (l.length : Int)) := by
  unfold laws_szNodeS.f
  rw [wrap64_id _ (by omega) (by omega)]
  by_cases h : 1048576 < l.length
  · rw [if_pos (by omega), if_pos h]
  · rw [if_neg (by omega), if_neg h]
theorem set_mid {α : Type} (a b : List α) (x y : α) (n : Nat) (h : n = a.length) : (a ++ x :: b).set n y = a ++ y :: b := by
  subst h; simp
theorem toNodes_loop (l : List Nl) (hl : l.length ≤ 1048576) (d : Nat) : ∀ (i : Nat) (k : Nat), i + d = l.length → d < k →
    laws_toNodeS.l0 k l ((l.take i).map conv ++ List.replicate d z52) (i : Int) = some (l.map conv) := by
  induction d with
  | zero =>
    intro i k hi hk
    obtain ⟨k, rfl⟩ : ∃ m, k = m + 1 := ⟨k - 1, by omega⟩
    simp only [laws_toNodeS.l0]
    rw [if_neg (by omega), List.take_of_length_le (by omega)]
    simp
  | succ d ih =>
    intro i k hi hk
    obtain ⟨k, rfl⟩ : ∃ m, k = m + 1 := ⟨k - 1, by omega⟩
    have hit : i < l.length := by omega
    have e1 : wrap64 ((i : Int) + 1) = ((i + 1 : Nat) : Int) := by rw [wrap64_id _ (by omega) (by omega)]; omega
    simp only [laws_toNodeS.l0]
    rewrite [if_pos (by omega), if_pos (by omega)]
    unfold laws_toNode.f
    simp only [Option.bind_some]
    rewrite [if_pos (by simp; omega), rdl_at hit, e1, Int.toNat_natCast, List.replicate_succ, set_mid _ _ _ _ _ (by simp; omega)]
    have h2 : (l.take i).map conv ++ (⟨l[i].f0, l[i].f1⟩ : Nd) :: List.replicate d z52 = (l.take (i + 1)).map conv ++ List.replicate d z52 := by
      rw [List.take_add_one, List.getElem?_eq_getElem hit, Option.toList_some, List.map_append, List.append_assoc]
      rfl
    rewrite [h2]
    exact ih (i + 1) k (by omega) (by omega)
theorem toNodes_val (k : Nat) (l : List Nl) (hl : l.length ≤ 1048576) (hk : l.length < k) : laws_toNodeS.f k l = some (l.map conv) := by
  unfold laws_toNodeS.f
  rw [if_pos (by omega), Int.toNat_natCast, if_pos (by omega)]
  have := toNodes_loop l hl l.length 0 k (by omega) hk
  simpa using this
theorem eqNodes_loop (l : List Nd) (hl : l.length ≤ 1048576) (d : Nat) : ∀ (i : Nat) (k : Nat), i + d = l.length → d < k → laws_eqNodeS.l0 k l l (i : Int) = some true := by
  induction d with
  | zero =>
    intro i k hi hk
    obtain ⟨k, rfl⟩ : ∃ m, k = m + 1 := ⟨k - 1, by omega⟩
    simp only [laws_eqNodeS.l0]
    rw [if_neg (by omega)]
  | succ d ih =>
    intro i k hi hk
    obtain ⟨k, rfl⟩ : ∃ m, k = m + 1 := ⟨k - 1, by omega⟩
    have e1 : wrap64 ((i : Int) + 1) = ((i + 1 : Nat) : Int) := by rw [wrap64_id _ (by omega) (by omega)]; omega
    simp only [laws_eqNodeS.l0]
    rewrite [if_pos (by omega), if_pos (by omega), if_pos (by omega)]
    unfold laws_eqNode.f
    rewrite [if_pos rfl, if_pos rfl]
    simp only [Option.bind_some, if_true]
    rewrite [e1]
    exact ih (i + 1) k (by omega) (by omega)
theorem eqNodes_val (k : Nat) (l : List Nd) (hl : l.length ≤ 1048576) (hk : l.length < k) : laws_eqNodeS.f k l l = some true := by
  unfold laws_eqNodeS.f
  rw [if_pos rfl]
  exact eqNodes_loop l hl l.length 0 k (by omega) hk
theorem conv_ok (l : List Nl) (h : ∀ y ∈ l, wf54 y) : okNodes (l.map conv) := by
  intro x hx
  obtain ⟨y, hy, rfl⟩ := List.mem_map.1 hx
  exact wf_u64 (h y hy).2
/-- How many rounds serve every loop over such a list. -/
def rounds (l : List Nl) : Nat := 6 * l.length + 2000
theorem runK_append (w v : Int) (t u : List Nd) : ∀ st, runK w v (t ++ u) st = (runK w v t st).bind (runK w v u) := by
  induction t with
  | nil => intro st; rfl
  | cons x t ih =>
    intro st
    simp only [List.cons_append, runK, Option.bind_assoc]
    congr 1
    funext s
    exact ih s
theorem step_head (w v : Int) (st st' : List Int) (x : Nd) (h : stepK w v st x = some st') : ∃ s, st' = (need x.f0).2.2 :: s := by
  unfold stepK at h
  split at h
  · cases h
  · split at h
    · split at h
      · cases h
      · split at h
        · exact ⟨_, (Option.some.inj h).symm⟩
        · cases h
    · cases h
theorem kindT_last (w v : Int) (t : List Nd) (h : kindT w v t > 0) : ∃ u x, t = u ++ [x] ∧ kindT w v t = (need x.f0).2.2 := by
  unfold kindT at h ⊢
  split at h
  · rename_i hc
    rw [if_pos hc]
    obtain ⟨u, x, rfl⟩ : ∃ u x, t = u ++ [x] := by
      rcases List.eq_nil_or_concat t with h0 | ⟨u, x, h0⟩
      · subst h0; simp at hc
      · exact ⟨u, x, by simpa using h0⟩
    refine ⟨u, x, rfl, ?_⟩
    rw [runK_append] at h ⊢
    cases h1 : runK w v u [] with
    | none => rw [h1] at h; simp [top] at h
    | some s =>
      rw [h1] at h
      simp only [Option.bind_some, runK] at h ⊢
      cases h2 : stepK w v s x with
      | none => rw [h2] at h; simp [top] at h
      | some s2 =>
        obtain ⟨s3, rfl⟩ := step_head w v s s2 x h2
        rw [h2] at h
        simp only [Option.bind_some] at h ⊢
        match s3 with
        | [] => rfl
        | b :: r => simp [top] at h
  · exact absurd h (by decide)
theorem kindOf_val (k : Nat) (w v : Int) (t : List Nd) (h : kindT w v t > 0) (hk : 400 < k) : impl_kindOf.f k t = some (kindT w v t) := by
  have hlen : t.length ≤ 48 := by
    unfold kindT at h
    split at h
    · omega
    · exact absurd h (by decide)
  obtain ⟨u, x, rfl, he⟩ := kindT_last w v t h
  rw [he]
  have e1 : wrap64 (((u ++ [x]).length : Int) - 1) = (u.length : Int) := by
    rw [wrap64_id _ (by simp only [List.length_append, List.length_cons, List.length_nil]; omega) (by omega)]; simp
  have e2 : rd_T52 (u ++ [x]) (u.length : Int) = x := by rw [rd_at (by simp)]; simp
  unfold impl_kindOf.f
  rw [e1, if_pos (by omega), if_pos (by simp only [List.length_append, List.length_cons, List.length_nil]; omega), e2, need_impl _ _ (by omega)]
  simp only [Option.bind_some]
  rw [(needI_eq x.f0).2.1]
theorem rdNode_at {t : List Nd} {i : Nat} (h : i < t.length) : rd_T52 t (i : Int) = t[i] := rd_at h
end Go.Proofs.Ytckdgmbmjfhodaa.Pure

namespace Go.Proofs.Ytckdgmbmjfhodaa.Pure
open Go.RowKit Go.Proofs.Ytckdgmbmjfhodaa.X Go.Proofs.YtckdgmbmjfhodaaW.PrintWords Go.Proofs.YtckdgmbmjfhodaaW.PrintLast Go.Proofs.Ytckdgmbmjfhodaa.Bits

inductive Tr where
  | leaf (x : Nd) : Tr
  | one (x : Nd) (a : Tr) : Tr
  | two (x : Nd) (a b : Tr) : Tr
def Tr.flat : Tr → List Nd
  | .leaf x => [x]
  | .one x a => a.flat ++ [x]
  | .two x a b => a.flat ++ (b.flat ++ [x])
def Tr.root : Tr → Nd
  | .leaf x => x
  | .one x _ => x
  | .two x _ _ => x
/-- A tree whose nodes fit, of a kind. -/
def Tr.good (w v : Int) : Tr → Int → Prop
  | .leaf x, k => (need x.f0).1 = 0 ∧ (need x.f0).2.2 = k ∧ k ≠ 0 ∧ leafB w v x = true
  | .one x a, k => (need x.f0).1 = 1 ∧ (need x.f0).2.2 = k ∧ k ≠ 0 ∧ leafB w v x = true ∧ a.good w v (need x.f0).2.1
  | .two x a b, k => (need x.f0).1 = 2 ∧ (need x.f0).2.2 = k ∧ k ≠ 0 ∧ leafB w v x = true ∧ a.good w v (need x.f0).2.1 ∧ b.good w v (need x.f0).2.1
def flats : List Tr → List Nd
  | [] => []
  | f :: r => flats r ++ f.flat
def goods (w v : Int) : List Tr → List Int → Prop
  | [], [] => True
  | f :: r, k :: s => f.good w v k ∧ goods w v r s
  | _, _ => False
theorem goods_step (w v : Int) (x : Nd) (fs : List Tr) (st st' : List Int) (hg : goods w v fs st) (h : stepK w v st x = some st') :
    ∃ fs', goods w v fs' st' ∧ flats fs' = flats fs ++ [x] := by
  obtain ⟨m, p, r, hn, b0, b1, b2, b3, b4, b5⟩ := need_is x.f0
  unfold stepK at h
  rw [hn] at h
  simp only at h
  split at h
  · cases h
  · rename_i hr
    split at h
    · rename_i hl
      split at h
      · cases h
      · rename_i hlen
        split at h
        · rename_i hall
          obtain rfl := Option.some.inj h
          have hm : m = 0 ∨ m = 1 ∨ m = 2 := by omega
          rcases hm with rfl | rfl | rfl
          · exact ⟨.leaf x :: fs, ⟨⟨by rw [hn], by rw [hn], hr, hl⟩, hg⟩, rfl⟩
          · match fs, st, hg with
            | [], [], _ => exact absurd hlen (by simp)
            | a :: fs, s :: st, hg =>
              have hs : s = p := by simpa using hall
              subst hs
              exact ⟨.one x a :: fs, ⟨⟨by rw [hn], by rw [hn], hr, hl, by rw [hn]; exact hg.1⟩, hg.2⟩, by simp [flats, Tr.flat]⟩
          · match fs, st, hg with
            | [], [], _ => exact absurd hlen (by simp)
            | [_], [_], _ => exact absurd hlen (by simp)
            | b :: a :: fs, s :: s2 :: st, hg =>
              have hs : s = p ∧ s2 = p := by simpa using hall
              obtain ⟨rfl, rfl⟩ := hs
              exact ⟨.two x a b :: fs, ⟨⟨by rw [hn], by rw [hn], hr, hl, by rw [hn]; exact hg.2.1, by rw [hn]; exact hg.1⟩, hg.2.2⟩, by simp [flats, Tr.flat]⟩
        · cases h
    · cases h
theorem goods_run (w v : Int) (t : List Nd) : ∀ (fs : List Tr) (st st' : List Int), goods w v fs st → runK w v t st = some st' → ∃ fs', goods w v fs' st' ∧ flats fs' = flats fs ++ t := by
  induction t with
  | nil =>
    intro fs st st' hg h
    simp only [runK, Option.some.injEq] at h
    subst h
    exact ⟨fs, hg, by simp⟩
  | cons x t ih =>
    intro fs st st' hg h
    simp only [runK, Option.bind_eq_some_iff] at h
    obtain ⟨s1, h1, h2⟩ := h
    obtain ⟨f1, hg1, hf1⟩ := goods_step w v x fs st s1 hg h1
    obtain ⟨f2, hg2, hf2⟩ := ih f1 s1 st' hg1 h2
    exact ⟨f2, hg2, by rw [hf2, hf1]; simp⟩
/-- A good term is a tree's nodes. -/
theorem kind_tree (w v : Int) (t : List Nd) (h : kindT w v t > 0) : ∃ tr : Tr, tr.good w v (kindT w v t) ∧ tr.flat = t := by
  unfold kindT at h ⊢
  split at h
  · rename_i hc
    rw [if_pos hc]
    cases hr : runK w v t [] with
    | none => rw [hr] at h; exact absurd h (by decide)
    | some st =>
      rw [hr] at h
      obtain ⟨fs, hg, hf⟩ := goods_run w v t [] [] st trivial hr
      match st, fs, hg, h with
      | [k], [f], hg, _ => exact ⟨f, hg.1, by simpa [flats] using hf⟩
      | [], _, _, h => exact absurd h (by simp [top])
      | a :: b :: s, _, _, h => exact absurd h (by simp [top])
  · exact absurd h (by decide)
theorem flat_pos (tr : Tr) : 0 < tr.flat.length := by cases tr <;> simp [Tr.flat] <;> omega
/-- A run over a stack. -/
def runS {β : Type} (step : Nd → List β → Option (List β)) : List Nd → List β → Option (List β)
  | [], st => some st
  | x :: t, st => (step x st).bind (runS step t)
theorem runS_append {β : Type} (step : Nd → List β → Option (List β)) (t u : List Nd) : ∀ st, runS step (t ++ u) st = (runS step t st).bind (runS step u) := by
  induction t with
  | nil => intro st; rfl
  | cons x t ih =>
    intro st
    simp only [List.cons_append, runS, Option.bind_assoc]
    congr 1
    funext s
    exact ih s
theorem runS_tree {β : Type} (w v : Int) (step : Nd → List β → Option (List β)) (ev : Tr → β)
    (h0 : ∀ x st k, (Tr.leaf x).good w v k → step x st = some (ev (.leaf x) :: st))
    (h1 : ∀ x a st k, (Tr.one x a).good w v k → step x (ev a :: st) = some (ev (.one x a) :: st))
    (h2 : ∀ x a b st k, (Tr.two x a b).good w v k → step x (ev b :: ev a :: st) = some (ev (.two x a b) :: st))
    (tr : Tr) : ∀ st k, tr.good w v k → runS step tr.flat st = some (ev tr :: st) := by
  induction tr with
  | leaf x =>
    intro st k h
    simp only [Tr.flat, runS, h0 x st k h, Option.bind_some]
  | one x a iha =>
    intro st k h
    rw [Tr.flat, runS_append, iha st _ h.2.2.2.2]
    simp only [Option.bind_some, runS, h1 x a st k h]
  | two x a b iha ihb =>
    intro st k h
    rw [Tr.flat, runS_append, iha st _ h.2.2.2.2.1]
    simp only [Option.bind_some]
    rw [runS_append, ihb _ _ h.2.2.2.2.2]
    simp only [Option.bind_some, runS, h2 x a b st k h]
/-- A tree whose nodes stand in a list from a place on. -/
def stands (t : List Nd) (lo : Nat) (tr : Tr) : Prop := ∃ pre post, t = pre ++ (tr.flat ++ post) ∧ pre.length = lo
theorem stands_all (tr : Tr) : stands tr.flat 0 tr := ⟨[], [], by simp, rfl⟩
theorem stands_one {t : List Nd} {lo : Nat} {x : Nd} {a : Tr} (h : stands t lo (.one x a)) : stands t lo a := by
  obtain ⟨pre, post, rfl, hl⟩ := h
  exact ⟨pre, [x] ++ post, by simp [Tr.flat], hl⟩
theorem stands_two {t : List Nd} {lo : Nat} {x : Nd} {a b : Tr} (h : stands t lo (.two x a b)) : stands t lo a ∧ stands t (lo + a.flat.length) b := by
  obtain ⟨pre, post, rfl, hl⟩ := h
  exact ⟨⟨pre, b.flat ++ [x] ++ post, by simp [Tr.flat], hl⟩, ⟨pre ++ a.flat, [x] ++ post, by simp [Tr.flat], by simp [hl]⟩⟩
theorem stands_len {t : List Nd} {lo : Nat} {tr : Tr} (h : stands t lo tr) : lo + tr.flat.length ≤ t.length := by
  obtain ⟨pre, post, rfl, hl⟩ := h
  simp; omega
theorem flat_root (tr : Tr) : ∃ u, tr.flat = u ++ [tr.root] := by
  cases tr with
  | leaf x => exact ⟨[], rfl⟩
  | one x a => exact ⟨a.flat, rfl⟩
  | two x a b => exact ⟨a.flat ++ b.flat, by simp [Tr.flat, Tr.root]⟩
theorem stands_root {t : List Nd} {lo : Nat} {tr : Tr} (h : stands t lo tr) : t[lo + tr.flat.length - 1]? = some tr.root := by
  obtain ⟨pre, post, rfl, hl⟩ := h
  obtain ⟨u, hu⟩ := flat_root tr
  subst hl
  have hul : tr.flat.length = u.length + 1 := by rw [hu]; simp
  rw [hul, hu, show pre.length + (u.length + 1) - 1 = pre.length + u.length by omega, List.getElem?_append_right (by omega), Nat.add_sub_cancel_left, List.append_assoc, List.getElem?_append_right (by omega), Nat.sub_self]
  rfl
theorem stands_rd {t : List Nd} {lo : Nat} {tr : Tr} (h : stands t lo tr) (i : Int) (hi : i = (lo : Int) + tr.flat.length - 1) : rd_T52 t i = tr.root := by
  have hp := flat_pos tr
  have hl := stands_len h
  obtain rfl : i = ((lo + tr.flat.length - 1 : Nat) : Int) := by omega
  have h2 := stands_root h
  rw [List.getElem?_eq_getElem (by omega)] at h2
  rw [rd_at (by omega)]
  exact Option.some.inj h2
theorem good_need {w v k : Int} {tr : Tr} (h : tr.good w v k) : (need tr.root.f0).2.2 = k ∧ k ≠ 0 ∧ leafB w v tr.root = true := by
  cases tr with
  | leaf x => exact ⟨h.2.1, h.2.2.1, h.2.2.2⟩
  | one x a => exact ⟨h.2.1, h.2.2.1, h.2.2.2.1⟩
  | two x a b => exact ⟨h.2.1, h.2.2.1, h.2.2.2.1⟩
end Go.Proofs.Ytckdgmbmjfhodaa.Pure

namespace Go.Proofs.Ytckdgmbmjfhodaa.Pure
open Go.RowKit Go.Proofs.Ytckdgmbmjfhodaa.X Go.Proofs.YtckdgmbmjfhodaaW.PrintWords Go.Proofs.YtckdgmbmjfhodaaW.PrintLast Go.Proofs.Ytckdgmbmjfhodaa.Bits

/-- Where the tree that ends at a place begins. -/
theorem from_val (w v : Int) (t : List Nd) (ht : t.length ≤ 48) (tr : Tr) : ∀ (lo k : Nat) (kd i : Int), stands t lo tr → tr.good w v kd → i = (lo : Int) + tr.flat.length - 1 → 3 * tr.flat.length + 5 < k →
    spec_l2From.f k t i = some (lo : Int) := by
  induction tr with
  | leaf x =>
    intro lo k kd i hs hg hi hk
    obtain ⟨k, rfl⟩ : ∃ m, k = m + 2 := ⟨k - 2, by omega⟩
    have hl := stands_len hs
    have hp := flat_pos (.leaf x)
    have hr := stands_rd hs i hi
    simp only [spec_l2From.f]
    rewrite [if_pos (by omega), if_pos (by omega), hr, need_spec _ _ (by omega)]
    simp only [Option.bind_some, Tr.root, hg.1, spec_l2From.l0]
    rewrite [if_neg (by omega)]
    simp only [Tr.flat, List.length_cons, List.length_nil] at hi
    congr 1; omega
  | one x a iha =>
    intro lo k kd i hs hg hi hk
    obtain ⟨k, rfl⟩ : ∃ m, k = m + 3 := ⟨k - 3, by omega⟩
    have hl := stands_len hs
    have hp := flat_pos (.one x a)
    have hr := stands_rd hs i hi
    simp only [Tr.flat, List.length_append, List.length_cons, List.length_nil] at hi hl hk hp
    have hpa := flat_pos a
    have ha := iha lo (k + 1) _ (i - 1) (stands_one hs) hg.2.2.2.2 (by omega) (by omega)
    have e1 : wrap64 (i - 1) = i - 1 := wrap64_id _ (by omega) (by omega)
    simp only [spec_l2From.f]
    rewrite [if_pos (by omega), if_pos (by omega), hr, need_spec _ _ (by omega)]
    simp only [Option.bind_some, Tr.root, hg.1, spec_l2From.l0]
    rewrite [if_pos (by omega), e1, ha]
    simp only [Option.bind_some]
    rewrite [show wrap64 ((1 : Int) - 1) = 0 from wrap64_id _ (by omega) (by omega), if_neg (by omega)]
    rfl
  | two x a b iha ihb =>
    intro lo k kd i hs hg hi hk
    obtain ⟨k, rfl⟩ : ∃ m, k = m + 4 := ⟨k - 4, by omega⟩
    have hl := stands_len hs
    have hp := flat_pos (.two x a b)
    have hr := stands_rd hs i hi
    simp only [Tr.flat, List.length_append, List.length_cons, List.length_nil] at hi hl hk hp
    have hpa := flat_pos a
    have hpb := flat_pos b
    obtain ⟨s1, s2⟩ := stands_two hs
    have hb := ihb (lo + a.flat.length) (k + 2) _ (i - 1) s2 hg.2.2.2.2.2 (by omega) (by omega)
    have ha := iha lo (k + 1) _ (((lo + a.flat.length : Nat) : Int) - 1) s1 hg.2.2.2.2.1 (by omega) (by omega)
    have e1 : wrap64 (i - 1) = i - 1 := wrap64_id _ (by omega) (by omega)
    have e2 : wrap64 (((lo + a.flat.length : Nat) : Int) - 1) = ((lo + a.flat.length : Nat) : Int) - 1 := wrap64_id _ (by omega) (by omega)
    have e3 : wrap64 ((2 : Int) - 1) = 1 := wrap64_id _ (by omega) (by omega)
    have e4 : wrap64 ((1 : Int) - 1) = 0 := wrap64_id _ (by omega) (by omega)
    simp only [spec_l2From.f]
    rewrite [if_pos (by omega), if_pos (by omega), hr, need_spec _ _ (by omega)]
    simp only [Option.bind_some, Tr.root, hg.1, spec_l2From.l0]
    rewrite [if_pos (by omega), e1, hb]
    simp only [Option.bind_some]
    rewrite [e3, if_pos (by omega), e2, ha]
    simp only [Option.bind_some]
    rewrite [e4, if_neg (by omega)]
    rfl
end Go.Proofs.Ytckdgmbmjfhodaa.Pure

namespace Go.Proofs.Ytckdgmbmjfhodaa.Pure
open Go.RowKit Go.Proofs.Ytckdgmbmjfhodaa.X Go.Proofs.YtckdgmbmjfhodaaW.PrintWords Go.Proofs.YtckdgmbmjfhodaaW.PrintLast Go.Proofs.Ytckdgmbmjfhodaa.Bits

theorem need0 (op : Int) (h : (need op).1 = 0) (h2 : (need op).2.2 ≠ 0) : op = 1 ∨ op = 2 ∨ op = 20 := by
  unfold need at h h2
  by_cases c1 : op = 1 ∨ op = 2
  · omega
  by_cases c2 : op = 20
  · omega
  rw [if_neg c1, if_neg c2] at h h2
  by_cases c3 : op = 13
  · rw [if_pos c3] at h; exact absurd h (by decide)
  by_cases c4 : op = 19
  · rw [if_neg c3, if_pos c4] at h; exact absurd h (by decide)
  rw [if_neg c3, if_neg c4] at h h2
  by_cases c5 : 3 ≤ op ∧ op ≤ 12
  · rw [if_pos c5] at h; exact absurd h (by decide)
  by_cases c6 : 14 ≤ op ∧ op ≤ 16
  · rw [if_neg c5, if_pos c6] at h; exact absurd h (by decide)
  by_cases c7 : op = 17 ∨ op = 18
  · rw [if_neg c5, if_neg c6, if_pos c7] at h; exact absurd h (by decide)
  rw [if_neg c5, if_neg c6, if_neg c7] at h2
  exact absurd rfl h2
theorem need1 (op : Int) (h : (need op).1 = 1) : op = 13 ∨ op = 19 := by
  unfold need at h
  by_cases c1 : op = 1 ∨ op = 2
  · rw [if_pos c1] at h; exact absurd h (by decide)
  by_cases c2 : op = 20
  · rw [if_neg c1, if_pos c2] at h; exact absurd h (by decide)
  rw [if_neg c1, if_neg c2] at h
  by_cases c3 : op = 13
  · exact .inl c3
  by_cases c4 : op = 19
  · exact .inr c4
  rw [if_neg c3, if_neg c4] at h
  by_cases c5 : 3 ≤ op ∧ op ≤ 12
  · rw [if_pos c5] at h; exact absurd h (by decide)
  by_cases c6 : 14 ≤ op ∧ op ≤ 16
  · rw [if_neg c5, if_pos c6] at h; exact absurd h (by decide)
  by_cases c7 : op = 17 ∨ op = 18
  · rw [if_neg c5, if_neg c6, if_pos c7] at h; exact absurd h (by decide)
  rw [if_neg c5, if_neg c6, if_neg c7] at h
  exact absurd h (by decide)
theorem need2 (op : Int) (h : (need op).1 = 2) : 3 ≤ op ∧ op ≤ 18 ∧ op ≠ 13 ∧ ((need op).2.2 = 2 → 14 ≤ op ∧ (17 ≤ op → (need op).2.1 = 2)) := by
  unfold need at h ⊢
  by_cases c1 : op = 1 ∨ op = 2
  · rw [if_pos c1] at h; exact absurd h (by decide)
  by_cases c2 : op = 20
  · rw [if_neg c1, if_pos c2] at h; exact absurd h (by decide)
  rw [if_neg c1, if_neg c2] at h ⊢
  by_cases c3 : op = 13
  · rw [if_pos c3] at h; exact absurd h (by decide)
  by_cases c4 : op = 19
  · rw [if_neg c3, if_pos c4] at h; exact absurd h (by decide)
  rw [if_neg c3, if_neg c4] at h ⊢
  by_cases c5 : 3 ≤ op ∧ op ≤ 12
  · rw [if_pos c5]; exact ⟨by omega, by omega, by omega, fun h => absurd h (by decide)⟩
  by_cases c6 : 14 ≤ op ∧ op ≤ 16
  · rw [if_neg c5, if_pos c6]; exact ⟨by omega, by omega, by omega, fun _ => ⟨by omega, by omega⟩⟩
  by_cases c7 : op = 17 ∨ op = 18
  · rw [if_neg c5, if_neg c6, if_pos c7]; exact ⟨by omega, by omega, by omega, fun _ => ⟨by omega, fun _ => rfl⟩⟩
  rw [if_neg c5, if_neg c6, if_neg c7] at h
  exact absurd h (by decide)
theorem need_20 : (need 1).2.2 = 1 ∧ (need 2).2.2 = 1 ∧ (need 13).2.2 = 1 ∧ (need 19).2.1 = 2 := by
  unfold need; decide
def flipped (w a : Int) : Int := Go.bits .xor .u64 18446744073709551615 a % 2 ^ w.toNat
/-- A tree's value. -/
def val (w : Int) (s : List Int) : Tr → Int
  | .leaf x => if x.f0 = 2 then rd s x.f1 else x.f1
  | .one x a => if x.f0 = 13 then flipped w (val w s a) else IntKind.u64.wrap (1 - val w s a)
  | .two x a b => ap w x.f0 (val w s a) (val w s b)
/-- The numbers of the nodes fit the state. -/
def fits (s : List Int) (t : List Nd) : Prop := ∀ x ∈ t, 0 ≤ x.f1 ∧ (x.f0 = 2 → x.f1 < (s.length : Int))
theorem fits_one {s : List Int} {x : Nd} {a : Tr} (h : fits s (Tr.one x a).flat) : fits s a.flat := fun y hy => h y (by simp [Tr.flat, hy])
theorem fits_two {s : List Int} {x : Nd} {a b : Tr} (h : fits s (Tr.two x a b).flat) : fits s a.flat ∧ fits s b.flat :=
  ⟨fun y hy => h y (by simp [Tr.flat, hy]), fun y hy => h y (by simp [Tr.flat, hy])⟩
theorem fits_root {s : List Int} {tr : Tr} (h : fits s tr.flat) : 0 ≤ tr.root.f1 ∧ (tr.root.f0 = 2 → tr.root.f1 < (s.length : Int)) := by
  obtain ⟨u, hu⟩ := flat_root tr
  exact h _ (by rw [hu]; simp)
theorem word_wide {w a : Int} (h1 : 1 ≤ w) (h2 : w ≤ 64) (h : word 1 a) : word w a := by
  have := pow_two w h1
  have h3 := h.2.2.2
  have e : (2 : Int) ^ (1 : Int).toNat = 2 := by decide
  rw [e] at h3
  exact ⟨h1, h2, h.2.2.1, by omega⟩
theorem rd_word {w : Int} {s : List Int} (hs : ∀ y ∈ s, word w y) (i : Int) (h0 : 0 ≤ i) (h1 : i < (s.length : Int)) : word w (rd s i) := by
  obtain ⟨n, rfl⟩ := Int.eq_ofNat_of_zero_le h0
  have hn : n < s.length := by omega
  have e : rd s (n : Int) = s[n] := by
    unfold rd
    rw [Int.toNat_natCast, List.getD_eq_getElem?_getD, List.getElem?_eq_getElem hn]; rfl
  rw [e]
  exact hs _ (List.getElem_mem hn)
theorem val_word (w v : Int) (h1 : 1 ≤ w) (h2 : w ≤ 64) (s : List Int) (hs : ∀ y ∈ s, word w y) (tr : Tr) : ∀ kd, tr.good w v kd → fits s tr.flat → word w (val w s tr) ∧ (kd = 2 → word 1 (val w s tr)) := by
  have e1 : (2 : Int) ^ (1 : Int).toNat = 2 := by decide
  induction tr with
  | leaf x =>
    intro kd hg hf
    have hr := fits_root hf
    simp only [Tr.root] at hr
    have hl := hg.2.2.2
    unfold leafB at hl
    obtain ⟨n1, n2, _, _⟩ := need_20
    simp only [val]
    rcases need0 x.f0 hg.1 (by rw [hg.2.1]; exact hg.2.2.1) with h | h | h
    · rw [if_pos h] at hl
      rw [if_neg (by omega)]
      refine ⟨of_decide_eq_true hl, fun hk => ?_⟩
      have := hg.2.1
      rw [h, n1] at this; omega
    · rw [if_pos h]
      refine ⟨rd_word hs _ hr.1 (hr.2 h), fun hk => ?_⟩
      have := hg.2.1
      rw [h, n2] at this; omega
    · rw [if_neg (by omega), if_neg (by omega), if_pos h] at hl
      have hl := of_decide_eq_true hl
      rw [if_neg (by omega)]
      have : word 1 x.f1 := ⟨by decide, by decide, hr.1, by rw [e1]; omega⟩
      exact ⟨word_wide h1 h2 this, fun _ => this⟩
  | one x a iha =>
    intro kd hg hf
    obtain ⟨_, _, n3, n4⟩ := need_20
    have ha := iha _ hg.2.2.2.2 (fits_one hf)
    simp only [val]
    rcases need1 x.f0 hg.1 with h | h
    · rw [if_pos h]
      refine ⟨word_mod w _ h1 h2, fun hk => ?_⟩
      have := hg.2.1
      rw [h, n3] at this; omega
    · rw [if_neg (by omega)]
      have hb := ha.2 (by rw [h, n4])
      have hb1 := hb.2.2.1
      have hb2 := hb.2.2.2
      rw [e1] at hb2
      have : word 1 (IntKind.u64.wrap (1 - val w s a)) := by
        rw [u64_id _ (by omega) (by omega)]
        exact ⟨by decide, by decide, by omega, by rw [e1]; omega⟩
      exact ⟨word_wide h1 h2 this, fun _ => this⟩
  | two x a b iha ihb =>
    intro kd hg hf
    have ha := iha _ hg.2.2.2.2.1 (fits_two hf).1
    have hb := ihb _ hg.2.2.2.2.2 (fits_two hf).2
    obtain ⟨o1, o2, o3, o4⟩ := need2 x.f0 hg.1
    simp only [val]
    refine ⟨word_ap ha.1 hb.1, fun hk => ?_⟩
    obtain ⟨o5, o6⟩ := o4 (by rw [hg.2.1]; exact hk)
    have hq : x.f0 = 14 ∨ x.f0 = 15 ∨ x.f0 = 16 ∨ x.f0 = 17 ∨ x.f0 = 18 := by omega
    rcases hq with h | h | h | h | h
    · rw [h, show ap w 14 (val w s a) (val w s b) = (if val w s a = val w s b then 1 else 0) by simp [ap]]; exact word_bool 1 (by decide) (by decide) _
    · rw [h, show ap w 15 (val w s a) (val w s b) = (if val w s a < val w s b then 1 else 0) by simp [ap]]; exact word_bool 1 (by decide) (by decide) _
    · rw [h, show ap w 16 (val w s a) (val w s b) = (if sgn w (val w s a) < sgn w (val w s b) then 1 else 0) by simp [ap]]; exact word_bool 1 (by decide) (by decide) _
    · rw [h, show ap w 17 (val w s a) (val w s b) = Go.bits .and .u64 (val w s a) (val w s b) by simp [ap]]
      exact word_and (ha.2 (o6 (by omega))) (hb.2 (o6 (by omega)))
    · rw [h, show ap w 18 (val w s a) (val w s b) = Go.bits .or .u64 (val w s a) (val w s b) by simp [ap]]
      exact word_or (ha.2 (o6 (by omega))) (hb.2 (o6 (by omega)))
theorem value_spec (w v : Int) (h1 : 1 ≤ w) (h2 : w ≤ 64) (s : List Int) (hs : ∀ y ∈ s, word w y) (t : List Nd) (ht : t.length ≤ 48) (tr : Tr) : ∀ (lo k : Nat) (kd i : Int), stands t lo tr → tr.good w v kd → fits s tr.flat →
    i = (lo : Int) + tr.flat.length - 1 → 3 * tr.flat.length + 155 < k → spec_l2Value.f k w t i s = some (val w s tr) := by
  induction tr with
  | leaf x =>
    intro lo k kd i hst hg hf hi hk
    obtain ⟨k, rfl⟩ : ∃ m, k = m + 1 := ⟨k - 1, by omega⟩
    have hl := stands_len hst
    have hp := flat_pos (.leaf x)
    have hr := stands_rd hst i hi
    have hq := fits_root hf
    simp only [Tr.root] at hq hr
    simp only [spec_l2Value.f]
    rewrite [if_pos (by omega), if_pos (by omega), hr, need_spec _ _ (by omega)]
    simp only [Option.bind_some, val]
    by_cases h : x.f0 = 2
    · rewrite [if_pos h, if_pos hq.1, if_pos (hq.2 h), if_pos h]; rfl
    · rewrite [if_neg h, if_pos hg.1, if_neg h]; rfl
  | one x a iha =>
    intro lo k kd i hst hg hf hi hk
    obtain ⟨k, rfl⟩ : ∃ m, k = m + 1 := ⟨k - 1, by omega⟩
    have hl := stands_len hst
    have hp := flat_pos (.one x a)
    have hr := stands_rd hst i hi
    simp only [Tr.flat, List.length_append, List.length_cons, List.length_nil] at hi hl hk hp
    have hpa := flat_pos a
    have ha := iha lo k _ (i - 1) (stands_one hst) hg.2.2.2.2 (fits_one hf) (by omega) (by omega)
    have e1 : wrap64 (i - 1) = i - 1 := wrap64_id _ (by omega) (by omega)
    have hm := hg.1
    have hxr := bits_range .xor 18446744073709551615 (val w s a)
    simp only [Tr.root] at hr
    simp only [spec_l2Value.f]
    rewrite [if_pos (by omega), if_pos (by omega), hr, need_spec _ _ (by omega)]
    simp only [Option.bind_some, val]
    rcases need1 x.f0 hg.1 with h | h
    · rewrite [if_neg (by omega), if_neg (by omega), if_pos h, e1, ha, if_pos h]
      simp only [Option.bind_some]
      rewrite [cut_val k w _ (by omega) (by omega) h2 hxr.1 hxr.2]
      rfl
    · rewrite [if_neg (by omega), if_neg (by omega), if_neg (by omega), if_pos h, e1, ha, if_neg (by omega)]
      rfl
  | two x a b iha ihb =>
    intro lo k kd i hst hg hf hi hk
    obtain ⟨k, rfl⟩ : ∃ m, k = m + 1 := ⟨k - 1, by omega⟩
    have hl := stands_len hst
    have hp := flat_pos (.two x a b)
    have hr := stands_rd hst i hi
    simp only [Tr.flat, List.length_append, List.length_cons, List.length_nil] at hi hl hk hp
    have hpa := flat_pos a
    have hpb := flat_pos b
    obtain ⟨s1, s2⟩ := stands_two hst
    have hb := ihb (lo + a.flat.length) k _ (i - 1) s2 hg.2.2.2.2.2 (fits_two hf).2 (by omega) (by omega)
    have hfr := from_val w v t ht b (lo + a.flat.length) k _ (i - 1) s2 hg.2.2.2.2.2 (by omega) (by omega)
    have ha := iha lo k _ (((lo + a.flat.length : Nat) : Int) - 1) s1 hg.2.2.2.2.1 (fits_two hf).1 (by omega) (by omega)
    have wa := (val_word w v h1 h2 s hs a _ hg.2.2.2.2.1 (fits_two hf).1).1
    have wb := (val_word w v h1 h2 s hs b _ hg.2.2.2.2.2 (fits_two hf).2).1
    have e1 : wrap64 (i - 1) = i - 1 := wrap64_id _ (by omega) (by omega)
    have e2 : wrap64 (((lo + a.flat.length : Nat) : Int) - 1) = ((lo + a.flat.length : Nat) : Int) - 1 := wrap64_id _ (by omega) (by omega)
    have hm := hg.1
    obtain ⟨o1, o2, o3, _⟩ := need2 x.f0 hg.1
    have hdo := do_val k w x.f0 _ _ (by omega) wa wb
    simp only [Tr.root] at hr
    simp only [spec_l2Value.f]
    rewrite [if_pos (by omega), if_pos (by omega), hr, need_spec _ _ (by omega)]
    simp only [Option.bind_some]
    rewrite [if_neg (by omega), if_neg (by omega), if_neg (by omega), if_neg (by omega), e1, hfr]
    simp only [Option.bind_some]
    rewrite [e2, ha, hb]
    simp only [Option.bind_some]
    rewrite [hdo]
    rfl
/-- One node over the program's stack. -/
theorem step0 (k : Nat) (w : Int) (s X : List Int) (t : List Nd) (ht : t.length ≤ 48) (x : Nd) (i : Nat) (hi : i < t.length) (hx : t[i] = x) (hX : X.length ≤ i) (h0 : (need x.f0).1 = 0) (h2 : (need x.f0).2.2 ≠ 0)
    (hf : 0 ≤ x.f1 ∧ (x.f0 = 2 → x.f1 < (s.length : Int))) :
    impl_valueOf.l0 (k + 2) w s X t (t.length : Int) (i : Int) = impl_valueOf.l0 k w s (X ++ [val w s (.leaf x)]) t (t.length : Int) ((i + 1 : Nat) : Int) := by
  have e1 : wrap64 ((i : Int) + 1) = ((i + 1 : Nat) : Int) := by rw [wrap64_id _ (by omega) (by omega)]; omega
  have eb : ∀ b : Int, ∀ c : Int, b ≠ c → ¬ (b == c) = true := fun b c h => by simpa using h
  simp only [impl_valueOf.l0]
  rewrite [if_pos (by omega), if_pos (by omega), if_pos (by omega), rd_at hi, hx]
  simp only [val]
  rcases need0 x.f0 h0 h2 with h | h | h
  · rewrite [if_pos h]
    simp only [impl_valueOf.j1]
    rewrite [if_pos (by simpa using h), if_pos (by omega), e1, if_neg (by omega)]
    rfl
  · rewrite [if_neg (by omega)]
    simp only [impl_valueOf.j1]
    rewrite [if_neg (eb _ _ (by omega)), if_pos h, if_pos hf.1, if_pos (hf.2 h), if_pos (by omega), e1, if_pos h]
    rfl
  · rewrite [if_neg (by omega)]
    simp only [impl_valueOf.j1]
    rewrite [if_pos (by simpa using h), if_pos (by omega), e1, if_neg (by omega)]
    rfl
theorem rd_snoc (X : List Int) (a : Int) (i : Int) (h : i = (X.length : Int)) : rd (X ++ [a]) i = a := by
  subst h
  unfold rd
  rw [Int.toNat_natCast, List.getD_eq_getElem?_getD, List.getElem?_append_right (by omega), Nat.sub_self]; rfl
theorem rd_snoc2 (X : List Int) (a b : Int) (i : Int) (h : i = (X.length : Int)) : rd (X ++ [a] ++ [b]) i = a := by
  subst h
  unfold rd
  rw [Int.toNat_natCast, List.getD_eq_getElem?_getD, List.append_assoc, List.getElem?_append_right (by omega), Nat.sub_self]; rfl
theorem step1 (k : Nat) (w : Int) (h1 : 1 ≤ w) (h2 : w ≤ 64) (s X : List Int) (a : Int) (t : List Nd) (ht : t.length ≤ 48) (x : Nd) (i : Nat) (hi : i < t.length) (hx : t[i] = x) (hX : X.length < i) (h0 : (need x.f0).1 = 1) :
    impl_valueOf.l0 (k + 2) w s (X ++ [a]) t (t.length : Int) (i : Int) = impl_valueOf.l0 k w s (X ++ [if x.f0 = 13 then flipped w a else IntKind.u64.wrap (1 - a)]) t (t.length : Int) ((i + 1 : Nat) : Int) := by
  have e1 : wrap64 ((i : Int) + 1) = ((i + 1 : Nat) : Int) := by rw [wrap64_id _ (by omega) (by omega)]; omega
  have eb : ∀ b : Int, ∀ c : Int, b ≠ c → ¬ (b == c) = true := fun b c h => by simpa using h
  have hlen : (X ++ [a]).length = X.length + 1 := by simp
  have e2 : wrap64 (((X ++ [a]).length : Int) - 1) = (X.length : Int) := by rw [wrap64_id _ (by omega) (by omega)]; omega
  have hxr := bits_range .xor 18446744073709551615 a
  have hset : ∀ z, (X ++ [a]).set X.length z = X ++ [z] := fun z => by simp
  simp only [impl_valueOf.l0]
  rewrite [if_pos (by omega), if_pos (by omega), if_pos (by omega), rd_at hi, hx, e2]
  rcases need1 x.f0 h0 with h | h
  · rewrite [if_neg (by omega)]
    simp only [impl_valueOf.j1]
    rewrite [if_neg (eb _ _ (by omega)), if_neg (by omega), if_pos h, if_pos (by omega), if_pos (by omega), mask_f w h1 h2]
    simp only [Option.bind_some]
    rewrite [rd_snoc X a _ rfl, Int.toNat_natCast, hset, and_mask _ _ hxr.1 hxr.2 (by omega), e1, if_pos h]
    rfl
  · rewrite [if_neg (by omega)]
    simp only [impl_valueOf.j1]
    rewrite [if_neg (eb _ _ (by omega)), if_neg (by omega), if_neg (by omega), if_pos h, if_pos (by omega), if_pos (by omega)]
    rewrite [rd_snoc X a _ rfl, Int.toNat_natCast, hset, e1, if_neg (by omega)]
    rfl
theorem step2 (k : Nat) (hk : 3 < k) (w : Int) (s X : List Int) (a b : Int) (ha : word w a) (hb : word w b) (t : List Nd) (ht : t.length ≤ 48) (x : Nd) (i : Nat) (hi : i < t.length) (hx : t[i] = x) (hX : X.length + 1 < i) (h0 : (need x.f0).1 = 2) :
    impl_valueOf.l0 (k + 2) w s (X ++ [a] ++ [b]) t (t.length : Int) (i : Int) = impl_valueOf.l0 k w s (X ++ [ap w x.f0 a b]) t (t.length : Int) ((i + 1 : Nat) : Int) := by
  have e1 : wrap64 ((i : Int) + 1) = ((i + 1 : Nat) : Int) := by rw [wrap64_id _ (by omega) (by omega)]; omega
  have eb : ∀ b : Int, ∀ c : Int, b ≠ c → ¬ (b == c) = true := fun b c h => by simpa using h
  have hlen : (X ++ [a] ++ [b]).length = X.length + 2 := by simp
  have e2 : wrap64 (((X ++ [a] ++ [b]).length : Int) - 1) = ((X.length + 1 : Nat) : Int) := by rw [wrap64_id _ (by omega) (by omega)]; omega
  have e3 : wrap64 (((X.length + 1 : Nat) : Int) - 1) = (X.length : Int) := by rw [wrap64_id _ (by omega) (by omega)]; omega
  have htk : (X ++ [a] ++ [b]).take X.length = X := by rw [List.append_assoc, List.take_left' rfl]
  obtain ⟨o1, o2, o3, _⟩ := need2 x.f0 h0
  have hap := apply_val k w x.f0 a b hk ha hb
  simp only [impl_valueOf.l0]
  rewrite [if_pos (by omega), if_pos (by omega), if_pos (by omega), rd_at hi, hx, e2, if_neg (by omega)]
  simp only [impl_valueOf.j1, e3]
  rewrite [if_neg (eb _ _ (by omega)), if_neg (by omega), if_neg (by omega), if_neg (by omega), if_pos (by omega), if_pos (by omega), Int.toNat_natCast, htk]
  simp only [Option.bind_some]
  rewrite [if_pos (by omega), if_pos (by omega), if_pos (by omega), rd_snoc2 X a b _ rfl, rd_snoc (X ++ [a]) b _ (by simp), hap]
  simp only [Option.bind_some]
  rewrite [if_pos (by omega), e1]
  rfl
theorem value_impl (w v : Int) (h1 : 1 ≤ w) (h2 : w ≤ 64) (s : List Int) (hs : ∀ y ∈ s, word w y) (t : List Nd) (ht : t.length ≤ 48) (tr : Tr) : ∀ (lo k : Nat) (kd : Int) (X : List Int), stands t lo tr → tr.good w v kd → fits s tr.flat →
    X.length ≤ lo → 3 < k → impl_valueOf.l0 (k + 2 * tr.flat.length) w s X t (t.length : Int) (lo : Int) = impl_valueOf.l0 k w s (X ++ [val w s tr]) t (t.length : Int) ((lo + tr.flat.length : Nat) : Int) := by
  induction tr with
  | leaf x =>
    intro lo k kd X hst hg hf hX hk
    have hl := stands_len hst
    have hr := stands_root hst
    simp only [Tr.flat, List.length_cons, List.length_nil, Tr.root, Nat.zero_add, Nat.add_sub_cancel] at hl hr ⊢
    have hi : lo < t.length := by omega
    rw [List.getElem?_eq_getElem hi] at hr
    exact step0 k w s X t ht x lo hi (Option.some.inj hr) hX hg.1 (by rw [hg.2.1]; exact hg.2.2.1) (fits_root hf)
  | one x a iha =>
    intro lo k kd X hst hg hf hX hk
    have hl := stands_len hst
    have hr := stands_root hst
    have hpa := flat_pos a
    simp only [Tr.flat, List.length_append, List.length_cons, List.length_nil, Tr.root, Nat.zero_add] at hl hr ⊢
    rw [show lo + (a.flat.length + 1) - 1 = lo + a.flat.length by omega] at hr
    have hi : lo + a.flat.length < t.length := by omega
    rw [List.getElem?_eq_getElem hi] at hr
    have ha := iha lo (k + 2) _ X (stands_one hst) hg.2.2.2.2 (fits_one hf) hX (by omega)
    rw [show k + 2 * (a.flat.length + 1) = k + 2 + 2 * a.flat.length by omega, ha]
    rw [step1 k w h1 h2 s X (val w s a) t ht x (lo + a.flat.length) hi (Option.some.inj hr) (by omega) hg.1]
    rfl
  | two x a b iha ihb =>
    intro lo k kd X hst hg hf hX hk
    have hl := stands_len hst
    have hr := stands_root hst
    have hpa := flat_pos a
    have hpb := flat_pos b
    obtain ⟨s1, s2⟩ := stands_two hst
    simp only [Tr.flat, List.length_append, List.length_cons, List.length_nil, Tr.root, Nat.zero_add] at hl hr ⊢
    rw [show lo + (a.flat.length + (b.flat.length + 1)) - 1 = lo + a.flat.length + b.flat.length by omega] at hr
    have hi : lo + a.flat.length + b.flat.length < t.length := by omega
    rw [List.getElem?_eq_getElem hi] at hr
    have ha := iha lo (k + 2 + 2 * b.flat.length) _ X s1 hg.2.2.2.2.1 (fits_two hf).1 hX (by omega)
    have hb := ihb (lo + a.flat.length) (k + 2) _ (X ++ [val w s a]) s2 hg.2.2.2.2.2 (fits_two hf).2 (by simp; omega) (by omega)
    have wa := (val_word w v h1 h2 s hs a _ hg.2.2.2.2.1 (fits_two hf).1).1
    have wb := (val_word w v h1 h2 s hs b _ hg.2.2.2.2.2 (fits_two hf).2).1
    rw [show k + 2 * (a.flat.length + (b.flat.length + 1)) = k + 2 + 2 * b.flat.length + 2 * a.flat.length by omega, ha, hb]
    rw [step2 k hk w s X _ _ wa wb t ht x (lo + a.flat.length + b.flat.length) hi (Option.some.inj hr) (by omega) hg.1]
    rw [show lo + (a.flat.length + (b.flat.length + 1)) = lo + a.flat.length + b.flat.length + 1 by omega]
    rfl
end Go.Proofs.Ytckdgmbmjfhodaa.Pure

namespace Go.Proofs.Ytckdgmbmjfhodaa.Pure
open Go.RowKit Go.Proofs.Ytckdgmbmjfhodaa.X Go.Proofs.YtckdgmbmjfhodaaW.PrintWords Go.Proofs.YtckdgmbmjfhodaaW.PrintLast Go.Proofs.YtckdgmbmjfhodaaW.PrintMore Go.Proofs.Ytckdgmbmjfhodaa.Bits
theorem rdUint64_at {t : List Int} {i : Nat} (h : i < t.length) : rd t (i : Int) = t[i] := by
  unfold rd
  rw [Int.toNat_natCast, List.getD_eq_getElem?_getD, List.getElem?_eq_getElem h]; rfl
theorem toUint64_loop (l : List Int) (hl : l.length ≤ 1048576) (d : Nat) : ∀ (i : Nat) (k : Nat), i + d = l.length → d < k →
    laws_toUint64S.l0 k l ((l.take i) ++ List.replicate d 0) (i : Int) = some (l) := by
  induction d with
  | zero =>
    intro i k hi hk
    obtain ⟨k, rfl⟩ : ∃ m, k = m + 1 := ⟨k - 1, by omega⟩
    simp only [laws_toUint64S.l0]
    rw [if_neg (by omega), List.take_of_length_le (by omega)]
    simp
  | succ d ih =>
    intro i k hi hk
    obtain ⟨k, rfl⟩ : ∃ m, k = m + 1 := ⟨k - 1, by omega⟩
    have hit : i < l.length := by omega
    have e1 : wrap64 ((i : Int) + 1) = ((i + 1 : Nat) : Int) := by rw [wrap64_id _ (by omega) (by omega)]; omega
    simp only [laws_toUint64S.l0]
    rewrite [if_pos (by omega), if_pos (by omega)]
    rewrite [if_pos (by simp; omega), rdUint64_at hit, e1, Int.toNat_natCast, List.replicate_succ, set_mid _ _ _ _ _ (by simp; omega)]
    have h2 : (l.take i) ++ l[i] :: List.replicate d 0 = (l.take (i + 1)) ++ List.replicate d 0 := by
      rw [List.take_add_one, List.getElem?_eq_getElem hit, Option.toList_some, List.append_assoc]
      rfl
    rewrite [h2]
    exact ih (i + 1) k (by omega) (by omega)
theorem toUint64_val (k : Nat) (l : List Int) (hl : l.length ≤ 1048576) (hk : l.length < k) : laws_toUint64S.f k l = some (l) := by
  unfold laws_toUint64S.f
  rw [if_pos (by omega), Int.toNat_natCast, if_pos (by omega)]
  have := toUint64_loop l hl l.length 0 k (by omega) hk
  simpa using this
theorem eqUint64_loop (l : List Int) (hl : l.length ≤ 1048576) (d : Nat) : ∀ (i : Nat) (k : Nat), i + d = l.length → d < k → laws_eqUint64S.l0 k l l (i : Int) = some true := by
  induction d with
  | zero =>
    intro i k hi hk
    obtain ⟨k, rfl⟩ : ∃ m, k = m + 1 := ⟨k - 1, by omega⟩
    simp only [laws_eqUint64S.l0]
    rw [if_neg (by omega)]
  | succ d ih =>
    intro i k hi hk
    obtain ⟨k, rfl⟩ : ∃ m, k = m + 1 := ⟨k - 1, by omega⟩
    have e1 : wrap64 ((i : Int) + 1) = ((i + 1 : Nat) : Int) := by rw [wrap64_id _ (by omega) (by omega)]; omega
    simp only [laws_eqUint64S.l0]
    rewrite [if_pos (by omega), if_pos (by omega), if_pos (by omega)]
    rewrite [if_pos trivial]
    rewrite [e1]
    exact ih (i + 1) k (by omega) (by omega)
theorem eqUint64_val (k : Nat) (l : List Int) (hl : l.length ≤ 1048576) (hk : l.length < k) : laws_eqUint64S.f k l l = some true := by
  unfold laws_eqUint64S.f
  rw [if_pos rfl]
  exact eqUint64_loop l hl l.length 0 k (by omega) hk

end Go.Proofs.Ytckdgmbmjfhodaa.Pure

namespace Go.Proofs.Ytckdgmbmjfhodaa.Pure
open Go.RowKit Go.Proofs.Ytckdgmbmjfhodaa.X Go.Proofs.YtckdgmbmjfhodaaW.PrintWords Go.Proofs.YtckdgmbmjfhodaaW.PrintLast Go.Proofs.Ytckdgmbmjfhodaa.Bits
def rising (l : List Int) : Prop := l.Pairwise (· < ·)
theorem rising_eq : ∀ (a b : List Int), rising a → rising b → (∀ x, x ∈ a ↔ x ∈ b) → a = b
  | [], [], _, _, _ => rfl
  | [], y :: b, _, _, h => absurd ((h y).2 (List.mem_cons_self ..)) (by simp)
  | x :: a, [], _, _, h => absurd ((h x).1 (List.mem_cons_self ..)) (by simp)
  | x :: a, y :: b, ha, hb, h => by
    obtain ⟨a1, a2⟩ := List.pairwise_cons.1 ha
    obtain ⟨b1, b2⟩ := List.pairwise_cons.1 hb
    have hxy : x = y := by
      rcases List.mem_cons.1 ((h x).1 (List.mem_cons_self ..)) with h1 | h1
      · exact h1
      · rcases List.mem_cons.1 ((h y).2 (List.mem_cons_self ..)) with h2 | h2
        · exact h2.symm
        · have := a1 y h2
          have := b1 x h1
          omega
    subst hxy
    congr 1
    refine rising_eq a b a2 b2 fun z => ⟨fun hz => ?_, fun hz => ?_⟩
    · rcases List.mem_cons.1 ((h z).1 (List.mem_cons_of_mem _ hz)) with h1 | h1
      · have := a1 z hz; omega
      · exact h1
    · rcases List.mem_cons.1 ((h z).2 (List.mem_cons_of_mem _ hz)) with h1 | h1
      · have := b1 z hz; omega
      · exact h1
/-- A number put to its place, once. -/
def putS (n : Int) : List Int → List Int
  | [] => [n]
  | a :: t => if a < n then a :: putS n t else if a = n then a :: t else n :: a :: t
theorem putS_mem (n x : Int) (l : List Int) : x ∈ putS n l ↔ x = n ∨ x ∈ l := by
  induction l with
  | nil => simp [putS]
  | cons a t ih =>
    unfold putS
    split
    · rw [List.mem_cons, ih, List.mem_cons]; constructor <;> (rintro (h | h | h) <;> simp [h])
    · split
      · rename_i h; subst h; simp
      · simp
theorem putS_rising (n : Int) (l : List Int) (h : rising l) : rising (putS n l) := by
  induction l with
  | nil => simp [putS, rising]
  | cons a t ih =>
    obtain ⟨h1, h2⟩ := List.pairwise_cons.1 h
    unfold putS
    split
    · rename_i hlt
      refine List.pairwise_cons.2 ⟨fun y hy => ?_, ih h2⟩
      rcases (putS_mem n y t).1 hy with rfl | hy
      · exact hlt
      · exact h1 y hy
    · split
      · exact h
      · rename_i h3 h4
        refine List.pairwise_cons.2 ⟨fun y hy => ?_, h⟩
        rcases List.mem_cons.1 hy with rfl | hy
        · omega
        · have := h1 y hy; omega
theorem putS_len (n : Int) (l : List Int) : (putS n l).length ≤ l.length + 1 := by
  induction l with
  | nil => simp [putS]
  | cons a t ih => unfold putS; split; · simp; omega
                   · split <;> simp
def putAllS (l : List Int) (acc : List Int) : List Int := l.foldl (fun s n => putS n s) acc
theorem putAllS_rising (l : List Int) : ∀ acc, rising acc → rising (putAllS l acc) := by
  induction l with
  | nil => intro acc h; exact h
  | cons a t ih => intro acc h; exact ih _ (putS_rising a acc h)
theorem putAllS_mem (l : List Int) (x : Int) : ∀ acc, x ∈ putAllS l acc ↔ x ∈ l ∨ x ∈ acc := by
  induction l with
  | nil => intro acc; simp [putAllS]
  | cons a t ih =>
    intro acc
    show x ∈ putAllS t (putS a acc) ↔ _
    rw [ih, putS_mem, List.mem_cons]
    constructor
    · rintro (h | h | h) <;> simp [h]
    · rintro ((h | h) | h) <;> simp [h]
theorem putAllS_len (l : List Int) : ∀ acc, (putAllS l acc).length ≤ l.length + acc.length := by
  induction l with
  | nil => intro acc; simp [putAllS]
  | cons a t ih =>
    intro acc
    have h := ih (putS a acc)
    have h2 := putS_len a acc
    show (putAllS t (putS a acc)).length ≤ _
    rw [List.length_cons]; omega
theorem compact_sorted (d : Array Int) (hs : ∀ i j, i ≤ j → j < d.size → d[i]! ≤ d[j]!) (m : Nat) (hm : m ≤ d.size) : rising (Lib.compactUpTo d m) ∧ ∀ x, x ∈ Lib.compactUpTo d m ↔ ∃ j, j < m ∧ d[j]! = x := by
  induction m with
  | zero => exact ⟨by simp [Lib.compactUpTo, rising], fun x => by simp [Lib.compactUpTo]⟩
  | succ m ih =>
    obtain ⟨h1, h2⟩ := ih (by omega)
    rw [Lib.compactUpTo_succ]
    by_cases hk : Lib.keeps d m = true
    · rw [if_pos hk]
      refine ⟨List.pairwise_append.2 ⟨h1, by simp, fun x hx y hy => ?_⟩, fun x => ?_⟩
      · obtain rfl := List.mem_singleton.1 hy
        obtain ⟨j, hj, rfl⟩ := (h2 x).1 hx
        have h3 := hs j (m - 1) (by omega) (by omega)
        have h4 := hs (m - 1) m (by omega) (by omega)
        have h5 : d[m]! ≠ d[m - 1]! := by
          unfold Lib.keeps at hk
          simp only [decide_eq_true_eq] at hk
          rcases hk with h0 | h0
          · omega
          · exact h0
        omega
      · rw [List.mem_append, h2, List.mem_singleton]
        constructor
        · rintro (⟨j, hj, rfl⟩ | rfl)
          · exact ⟨j, by omega, rfl⟩
          · exact ⟨m, by omega, rfl⟩
        · rintro ⟨j, hj, rfl⟩
          by_cases hjm : j = m
          · subst hjm; exact .inr rfl
          · exact .inl ⟨j, by omega, rfl⟩
    · rw [if_neg hk, List.append_nil]
      refine ⟨h1, fun x => ?_⟩
      rw [h2]
      have h5 : m ≠ 0 ∧ d[m]! = d[m - 1]! := by
        unfold Lib.keeps at hk
        simp only [decide_eq_true_eq, not_or, Decidable.not_not] at hk
        exact hk
      constructor
      · rintro ⟨j, hj, rfl⟩; exact ⟨j, by omega, rfl⟩
      · rintro ⟨j, hj, rfl⟩
        by_cases hjm : j = m
        · subst hjm; exact ⟨j - 1, by omega, h5.2.symm⟩
        · exact ⟨j, by omega, rfl⟩
/-- Sorting and compacting is putting each to its place. -/
theorem compact_sort (l : List Int) : Lib.compact (l.mergeSort fun x y => decide (x ≤ y)) = putAllS l [] := by
  obtain ⟨s, hs⟩ : ∃ s, (l.mergeSort fun x y => decide (x ≤ y)) = s := ⟨_, rfl⟩
  have hp : s.Perm l := by rw [← hs]; exact List.mergeSort_perm l _
  have ho : s.Pairwise (fun x y => decide (x ≤ y) = true) := by
    rw [← hs]
    exact List.pairwise_mergeSort (fun a b c h1 h2 => by simp only [decide_eq_true_eq] at *; omega) (fun a b => by simp only [Bool.or_eq_true, decide_eq_true_eq]; omega) l
  rw [hs]
  unfold Lib.compact
  have hd : ∀ i j, i ≤ j → j < s.toArray.size → s.toArray[i]! ≤ s.toArray[j]! := by
    intro i j hij hj
    have hj' : j < s.length := by simpa using hj
    have e1 : s.toArray[i]! = s[i]'(by omega) := by rw [getElem!_pos s.toArray i (by simp; omega)]; rfl
    have e2 : s.toArray[j]! = s[j] := by rw [getElem!_pos s.toArray j hj]; rfl
    rw [e1, e2]
    rcases Nat.lt_or_ge i j with h | h
    · have := List.pairwise_iff_getElem.1 ho i j (by omega) hj' h
      simpa using this
    · obtain rfl : i = j := by omega
      exact Int.le_refl _
  obtain ⟨h1, h2⟩ := compact_sorted s.toArray hd s.length (by simp)
  refine rising_eq _ _ h1 (putAllS_rising l [] (by simp [rising])) fun x => ?_
  rw [h2, putAllS_mem]
  constructor
  · rintro ⟨j, hj, rfl⟩
    left
    rw [getElem!_pos s.toArray j (by simpa using hj)]
    exact hp.mem_iff.1 (by simp)
  · rintro (h | h)
    · obtain ⟨j, hj, rfl⟩ := List.getElem_of_mem (hp.mem_iff.2 h)
      exact ⟨j, hj, by rw [getElem!_pos s.toArray j (by simpa using hj)]; rfl⟩
    · exact absurd h (by simp)
theorem put_loop (l : List Int) (hl : l.length ≤ 1000) (n : Int) (d : Nat) : ∀ (i k : Nat), i + d = l.length → d < k → spec_l1Put.l0 k l n (i : Int) = some (l.take i ++ putS n (l.drop i)) := by
  induction d with
  | zero =>
    intro i k hi hk
    obtain ⟨k, rfl⟩ : ∃ m, k = m + 1 := ⟨k - 1, by omega⟩
    simp only [spec_l1Put.l0, Option.bind_some, List.length_nil, List.nil_append]
    rewrite [if_neg (by omega), if_pos (by omega), if_pos (by omega), Int.toNat_natCast, if_pos (by rw [List.length_take]; omega), if_pos (by rw [List.length_take]; omega), if_pos (by simp only [List.length_append, List.length_take, List.length_drop, List.length_cons, List.length_nil]; omega), List.drop_eq_nil_of_le (by omega), List.append_nil]
    rfl
  | succ d ih =>
    intro i k hi hk
    obtain ⟨k, rfl⟩ : ∃ m, k = m + 1 := ⟨k - 1, by omega⟩
    have hit : i < l.length := by omega
    have e1 : wrap64 ((i : Int) + 1) = ((i + 1 : Nat) : Int) := by rw [wrap64_id _ (by omega) (by omega)]; omega
    have hd : l.drop i = l[i] :: l.drop (i + 1) := List.drop_eq_getElem_cons hit
    have ht : l.take (i + 1) = l.take i ++ [l[i]] := by rw [List.take_add_one, List.getElem?_eq_getElem hit]; rfl
    simp only [spec_l1Put.l0, Option.bind_some, List.length_nil, List.nil_append]
    rewrite [if_pos (by omega), if_pos (by omega), rdUint64_at hit, hd]
    unfold putS
    by_cases h1 : l[i] < n
    · rewrite [if_pos h1, e1, ih (i + 1) k (by omega) (by omega), ht, if_pos h1, List.append_assoc]
      rfl
    · rewrite [if_neg h1, if_neg h1]
      by_cases h2 : l[i] = n
      · rewrite [if_pos h2, if_pos h2, ← hd, List.take_append_drop]; rfl
      · rewrite [if_neg h2, if_neg h2, if_pos (by omega), Int.toNat_natCast]
        rewrite [if_pos (by rw [List.length_take]; omega), if_pos (by rw [List.length_take]; omega), if_pos (by simp only [List.length_append, List.length_take, List.length_drop, List.length_cons, List.length_nil]; omega), hd]
        simp
theorem put_val (l : List Int) (hl : l.length ≤ 1000) (n : Int) (k : Nat) (hk : l.length < k) : spec_l1Put.f k l n = some (putS n l) := by
  have := put_loop l hl n l.length 0 k (by omega) hk
  rw [List.take_zero, List.drop_zero, List.nil_append] at this
  exact this
theorem varsAt_cons (x : Nd) (t : List Nd) : varsAt (x :: t) = if x.f0 = 2 then wrap64 x.f1 :: varsAt t else varsAt t := by
  unfold varsAt
  by_cases h : x.f0 = 2
  · rw [if_pos h, List.filter_cons_of_pos (by simpa using h)]; rfl
  · rw [if_neg h, List.filter_cons_of_neg (by simpa using h)]
theorem vars_loop (t : List Nd) (ht : t.length ≤ 48) (d : Nat) : ∀ (i k : Nat) (acc : List Int), i + d = t.length → acc.length ≤ i → d + 60 < k →
    spec_l2Vars.l0 k acc t (t.length : Int) (i : Int) = some (putAllS (varsAt (t.drop i)) acc) := by
  induction d with
  | zero =>
    intro i k acc hi ha hk
    obtain ⟨k, rfl⟩ : ∃ m, k = m + 1 := ⟨k - 1, by omega⟩
    simp only [spec_l2Vars.l0]
    rewrite [if_neg (by omega), List.drop_eq_nil_of_le (by omega)]
    rfl
  | succ d ih =>
    intro i k acc hi ha hk
    obtain ⟨k, rfl⟩ : ∃ m, k = m + 1 := ⟨k - 1, by omega⟩
    have hit : i < t.length := by omega
    have e1 : wrap64 ((i : Int) + 1) = ((i + 1 : Nat) : Int) := by rw [wrap64_id _ (by omega) (by omega)]; omega
    have hd : t.drop i = t[i] :: t.drop (i + 1) := List.drop_eq_getElem_cons hit
    simp only [spec_l2Vars.l0]
    rewrite [if_pos (by omega), if_pos (by omega), if_pos (by omega), rd_at hit, hd, varsAt_cons]
    by_cases h : t[i].f0 = 2
    · have hl := putS_len (wrap64 t[i].f1) acc
      rewrite [if_pos h, if_pos h, put_val acc (by omega) _ k (by omega)]
      simp only [Option.bind_some]
      rewrite [e1, ih (i + 1) k _ (by omega) (by omega) (by omega)]
      rfl
    · rewrite [if_neg h, if_neg h, e1, ih (i + 1) k _ (by omega) (by omega) (by omega)]
      rfl
theorem vars_spec (t : List Nd) (ht : t.length ≤ 48) (k : Nat) (hk : 120 < k) : spec_l2Vars.f k t = some (putAllS (varsAt t) []) := by
  have := vars_loop t ht t.length 0 k [] (by omega) (by simp) (by omega)
  rw [List.drop_zero] at this
  exact this
theorem vars_impl (t : List Nd) (ht : t.length ≤ 48) : impl_varsIn.f t = some (putAllS (varsAt t) []) := by
  unfold impl_varsIn.f
  rw [if_pos (by omega), compact_sort]
end Go.Proofs.Ytckdgmbmjfhodaa.Pure

namespace Go.Proofs.Ytckdgmbmjfhodaa.Pure
open Go.RowKit Go.Proofs.Ytckdgmbmjfhodaa.X Go.Proofs.YtckdgmbmjfhodaaW.PrintWords Go.Proofs.YtckdgmbmjfhodaaW.PrintLast Go.Proofs.Ytckdgmbmjfhodaa.Bits

theorem valueOf_nil (k : Nat) (w v : Int) (h1 : 1 ≤ w) (h2 : w ≤ 64) (s : List Int) (hs : ∀ y ∈ s, word w y) (tr : Tr) (kd : Int) (hg : tr.good w v kd) (hf : fits s tr.flat) (ht : tr.flat.length ≤ 48) (hk : 200 < k) :
    impl_valueOf.f k w tr.flat s = some (val w s tr) := by
  obtain ⟨m, rfl⟩ : ∃ m, k = m + 5 + 2 * tr.flat.length := ⟨k - 5 - 2 * tr.flat.length, by omega⟩
  have h := value_impl w v h1 h2 s hs tr.flat ht tr 0 (m + 5) kd [] (stands_all tr) hg hf (by simp) (by omega)
  unfold impl_valueOf.f
  have h' : impl_valueOf.l0 (m + 5 + 2 * tr.flat.length) w s [] tr.flat (tr.flat.length : Int) 0 = impl_valueOf.l0 (m + 5) w s [val w s tr] tr.flat (tr.flat.length : Int) ((0 + tr.flat.length : Nat) : Int) := h
  rewrite [h']
  simp only [impl_valueOf.l0]
  rewrite [if_neg (by omega), if_pos (by simp)]
  rfl
theorem start_val (w v : Int) (t : List Nd) (ht : t.length ≤ 48) (tr : Tr) : ∀ (lo k : Nat) (kd i : Int), stands t lo tr → tr.good w v kd → i = (lo : Int) + tr.flat.length - 1 → 3 * tr.flat.length + 5 < k →
    impl_startOf.f k t i = some (lo : Int) := by
  induction tr with
  | leaf x =>
    intro lo k kd i hs hg hi hk
    obtain ⟨k, rfl⟩ : ∃ m, k = m + 2 := ⟨k - 2, by omega⟩
    have hl := stands_len hs
    have hp := flat_pos (.leaf x)
    have hr := stands_rd hs i hi
    have hn := (needI_eq x.f0).1
    rw [hg.1] at hn
    simp only [Tr.root] at hr
    simp only [impl_startOf.f]
    rewrite [if_pos (by omega), if_pos (by omega), hr, need_impl _ _ (by omega)]
    simp only [Option.bind_some, hn, impl_startOf.l0]
    rewrite [if_neg (by omega)]
    simp only [Tr.flat, List.length_cons, List.length_nil] at hi
    congr 1; omega
  | one x a iha =>
    intro lo k kd i hs hg hi hk
    obtain ⟨k, rfl⟩ : ∃ m, k = m + 3 := ⟨k - 3, by omega⟩
    have hl := stands_len hs
    have hp := flat_pos (.one x a)
    have hr := stands_rd hs i hi
    simp only [Tr.flat, List.length_append, List.length_cons, List.length_nil] at hi hl hk hp
    have hpa := flat_pos a
    have ha := iha lo (k + 1) _ (i - 1) (stands_one hs) hg.2.2.2.2 (by omega) (by omega)
    have e1 : wrap64 (i - 1) = i - 1 := wrap64_id _ (by omega) (by omega)
    have hn := (needI_eq x.f0).1
    rw [hg.1] at hn
    simp only [Tr.root] at hr
    simp only [impl_startOf.f]
    rewrite [if_pos (by omega), if_pos (by omega), hr, need_impl _ _ (by omega)]
    simp only [Option.bind_some, hn, impl_startOf.l0]
    rewrite [if_pos (by omega), e1, ha]
    simp only [Option.bind_some]
    rewrite [show wrap64 ((0 : Int) + 1) = 1 from wrap64_id _ (by omega) (by omega), if_neg (by omega)]
    rfl
  | two x a b iha ihb =>
    intro lo k kd i hs hg hi hk
    obtain ⟨k, rfl⟩ : ∃ m, k = m + 4 := ⟨k - 4, by omega⟩
    have hl := stands_len hs
    have hp := flat_pos (.two x a b)
    have hr := stands_rd hs i hi
    simp only [Tr.flat, List.length_append, List.length_cons, List.length_nil] at hi hl hk hp
    have hpa := flat_pos a
    have hpb := flat_pos b
    obtain ⟨s1, s2⟩ := stands_two hs
    have hb := ihb (lo + a.flat.length) (k + 2) _ (i - 1) s2 hg.2.2.2.2.2 (by omega) (by omega)
    have ha := iha lo (k + 1) _ (((lo + a.flat.length : Nat) : Int) - 1) s1 hg.2.2.2.2.1 (by omega) (by omega)
    have e1 : wrap64 (i - 1) = i - 1 := wrap64_id _ (by omega) (by omega)
    have e2 : wrap64 (((lo + a.flat.length : Nat) : Int) - 1) = ((lo + a.flat.length : Nat) : Int) - 1 := wrap64_id _ (by omega) (by omega)
    have e3 : wrap64 ((0 : Int) + 1) = 1 := wrap64_id _ (by omega) (by omega)
    have e4 : wrap64 ((1 : Int) + 1) = 2 := wrap64_id _ (by omega) (by omega)
    have hn := (needI_eq x.f0).1
    rw [hg.1] at hn
    simp only [Tr.root] at hr
    simp only [impl_startOf.f]
    rewrite [if_pos (by omega), if_pos (by omega), hr, need_impl _ _ (by omega)]
    simp only [Option.bind_some, hn, impl_startOf.l0]
    rewrite [if_pos (by omega), e1, hb]
    simp only [Option.bind_some]
    rewrite [e3, if_pos (by omega), e2, ha]
    simp only [Option.bind_some]
    rewrite [e4, if_neg (by omega)]
    rfl
def noVars (t : List Nd) : Bool := (putAllS (varsAt t) []).length == 0
def single (w : Int) (tr : Tr) : Nd := if (need tr.root.f0).2.2 = 2 then ⟨20, val w [] tr⟩ else ⟨1, val w [] tr⟩
/-- A tree folded. -/
def foldT (w : Int) : Tr → List Nd
  | .leaf x => if noVars (Tr.leaf x).flat = true then [single w (.leaf x)] else [x]
  | .one x a => if noVars (Tr.one x a).flat = true then [single w (.one x a)] else foldT w a ++ [x]
  | .two x a b => if noVars (Tr.two x a b).flat = true then [single w (.two x a b)] else foldT w a ++ foldT w b ++ [x]
theorem foldT_len (w : Int) (tr : Tr) : (foldT w tr).length ≤ tr.flat.length := by
  induction tr with
  | leaf x => simp only [foldT]; split <;> simp [Tr.flat]
  | one x a ih => simp only [foldT]; split <;> simp [Tr.flat] <;> omega
  | two x a b iha ihb => simp only [foldT]; split <;> simp [Tr.flat] <;> omega
theorem noVars_fits {t : List Nd} (h : noVars t = true) (h0 : ∀ x ∈ t, 0 ≤ x.f1) : fits [] t := by
  intro x hx
  refine ⟨h0 x hx, fun h2 => ?_⟩
  have hl : putAllS (varsAt t) [] = [] := List.eq_nil_of_length_eq_zero (by simpa [noVars] using h)
  have hm : wrap64 x.f1 ∈ varsAt t := by
    unfold varsAt
    exact List.mem_map.2 ⟨x, List.mem_filter.2 ⟨hx, by simpa using h2⟩, rfl⟩
  have := (putAllS_mem (varsAt t) (wrap64 x.f1) []).2 (.inl hm)
  rw [hl] at this
  exact absurd this (by simp)
theorem stands_cut {t : List Nd} {lo : Nat} {tr : Tr} (h : stands t lo tr) : (t.take (lo + tr.flat.length)).drop lo = tr.flat := by
  obtain ⟨pre, post, rfl, rfl⟩ := h
  rw [← List.append_assoc, List.take_left' (by simp), List.drop_left' rfl]
theorem eta (x : Nd) : (⟨x.f0, x.f1⟩ : Nd) = x := rfl
theorem fold_one_val (k : Nat) (w v : Int) (h1 : 1 ≤ w) (h2 : w ≤ 64) (t : List Nd) (ht : t.length ≤ 48) (tr : Tr) (lo : Nat) (kd i : Int) (hs : stands t lo tr) (hg : tr.good w v kd) (h0 : ∀ x ∈ tr.flat, 0 ≤ x.f1) (hn : noVars tr.flat = true)
    (hi : i = (lo : Int) + tr.flat.length - 1) (hk : 4 * tr.flat.length + 400 < k) : spec_l2Value.f k w t i [] = some (val w [] tr) :=
  value_spec w v h1 h2 [] (by simp) t ht tr lo k kd i hs hg (noVars_fits hn h0) hi (by omega)
theorem fold_spec (w v : Int) (h1 : 1 ≤ w) (h2 : w ≤ 64) (t : List Nd) (ht : t.length ≤ 48) (tr : Tr) : ∀ (lo k : Nat) (kd i : Int), stands t lo tr → tr.good w v kd → (∀ x ∈ tr.flat, 0 ≤ x.f1) → i = (lo : Int) + tr.flat.length - 1 → 4 * tr.flat.length + 401 < k →
    spec_l2Fold.f k w t i = some (foldT w tr) := by
  have start : ∀ (tr : Tr) (lo k : Nat) (kd i : Int), stands t lo tr → tr.good w v kd → (∀ x ∈ tr.flat, 0 ≤ x.f1) → i = (lo : Int) + tr.flat.length - 1 → 4 * tr.flat.length + 400 < k → ∀ R : Option (List Nd),
      (noVars tr.flat = true → R = some [single w tr]) → (noVars tr.flat = false → (if (need tr.root.f0).1 = 0 then (some (([(⟨tr.root.f0, tr.root.f1⟩ : Nd)] : List (Nd)))) else ((spec_l2Fold.f k w t (wrap64 (i - 1))).bind fun t478 => (if (need tr.root.f0).1 = 2 then ((spec_l2From.f k t (wrap64 (i - 1))).bind fun t481 => ((spec_l2Fold.f k w t (wrap64 (t481 - 1))).bind fun t482 => (if t482.length + t478.length < 8796093022208 then ((some (t482 ++ t478 : List (Nd))).bind fun y485 => (if y485.length < 8796093022208 then (some (y485 ++ [(⟨tr.root.f0, tr.root.f1⟩ : Nd)])) else (none))) else (none)))) else (if t478.length < 8796093022208 then (some (t478 ++ [(⟨tr.root.f0, tr.root.f1⟩ : Nd)])) else (none))))) = R) → spec_l2Fold.f (k + 1) w t i = R := by
    intro tr lo k kd i hs hg h0 hi hk R hR1 hR2
    have hl := stands_len hs
    have hp := flat_pos tr
    have hr := stands_rd hs i hi
    have hc := stands_cut hs
    have hfr := from_val w v t ht tr lo k kd i hs hg hi (by omega)
    have e1 : wrap64 (i + 1) = ((lo + tr.flat.length : Nat) : Int) := by rw [wrap64_id _ (by omega) (by omega)]; omega
    simp only [spec_l2Fold.f]
    rewrite [hfr]
    simp only [Option.bind_some]
    rewrite [e1, if_pos (by omega), if_pos (by omega), if_pos (by omega), Int.toNat_natCast, Int.toNat_natCast, hc, vars_spec _ (by omega) k (by omega)]
    simp only [Option.bind_some]
    by_cases hn : noVars tr.flat = true
    · have hz : ((putAllS (varsAt tr.flat) []).length : Int) = 0 := by simpa [noVars] using hn
      rewrite [if_pos hz, if_pos (by omega), if_pos (by omega), hr, need_spec _ _ (by omega)]
      simp only [Option.bind_some]
      rewrite [fold_one_val k w v h1 h2 t ht tr lo kd i hs hg h0 hn hi hk, hR1 hn]
      simp only [Option.bind_some]
      unfold single
      split <;> rfl
    · have hz : ¬ ((putAllS (varsAt tr.flat) []).length : Int) = 0 := by simpa [noVars] using hn
      rewrite [if_neg hz, if_pos (by omega), if_pos (by omega), hr, need_spec _ _ (by omega)]
      simp only [Option.bind_some]
      exact hR2 (by simpa using hn)
  induction tr with
  | leaf x =>
    intro lo k kd i hs hg h0 hi hk
    obtain ⟨k, rfl⟩ : ∃ m, k = m + 1 := ⟨k - 1, by omega⟩
    refine start _ lo k kd i hs hg h0 hi (by omega) _ (fun hn => ?_) (fun hn => ?_)
    · simp only [foldT]; rw [if_pos hn]
    · rw [if_pos (show (need (Tr.leaf x).root.f0).1 = 0 from hg.1)]
      simp only [foldT]
      rw [if_neg (by rw [hn]; decide)]; rfl
  | one x a iha =>
    intro lo k kd i hs hg h0 hi hk
    obtain ⟨k, rfl⟩ : ∃ m, k = m + 1 := ⟨k - 1, by omega⟩
    have hl := stands_len hs
    have hi' := hi
    have hk' := hk
    simp only [Tr.flat, List.length_append, List.length_cons, List.length_nil] at hi' hl hk'
    have hpa := flat_pos a
    have hfl := foldT_len w a
    have ha := iha lo k _ (i - 1) (stands_one hs) hg.2.2.2.2 (fun z hz => h0 z (by simp [Tr.flat, hz])) (by omega) (by omega)
    have e1 : wrap64 (i - 1) = i - 1 := wrap64_id _ (by omega) (by omega)
    refine start _ lo k kd i hs hg h0 hi (by simp only [Tr.flat, List.length_append, List.length_cons, List.length_nil]; omega) _ (fun hn => ?_) (fun hn => ?_)
    · simp only [foldT]; rw [if_pos hn]
    · have n1 : (need (Tr.one x a).root.f0).1 = 1 := hg.1
      simp only [foldT]
      rewrite [if_neg (by rw [n1]; decide), e1, ha]
      simp only [Option.bind_some]
      rewrite [if_neg (by rw [n1]; decide), if_pos (by omega), if_neg (by rw [hn]; decide)]
      rfl
  | two x a b iha ihb =>
    intro lo k kd i hs hg h0 hi hk
    obtain ⟨k, rfl⟩ : ∃ m, k = m + 1 := ⟨k - 1, by omega⟩
    have hl := stands_len hs
    have hi' := hi
    have hk' := hk
    simp only [Tr.flat, List.length_append, List.length_cons, List.length_nil] at hi' hl hk'
    have hpa := flat_pos a
    have hpb := flat_pos b
    have hfa := foldT_len w a
    have hfb := foldT_len w b
    obtain ⟨s1, s2⟩ := stands_two hs
    have hb := ihb (lo + a.flat.length) k _ (i - 1) s2 hg.2.2.2.2.2 (fun z hz => h0 z (by simp [Tr.flat, hz])) (by omega) (by omega)
    have hfr := from_val w v t ht b (lo + a.flat.length) k _ (i - 1) s2 hg.2.2.2.2.2 (by omega) (by omega)
    have ha := iha lo k _ (((lo + a.flat.length : Nat) : Int) - 1) s1 hg.2.2.2.2.1 (fun z hz => h0 z (by simp [Tr.flat, hz])) (by omega) (by omega)
    have e1 : wrap64 (i - 1) = i - 1 := wrap64_id _ (by omega) (by omega)
    have e2 : wrap64 (((lo + a.flat.length : Nat) : Int) - 1) = ((lo + a.flat.length : Nat) : Int) - 1 := wrap64_id _ (by omega) (by omega)
    refine start _ lo k kd i hs hg h0 hi (by simp only [Tr.flat, List.length_append, List.length_cons, List.length_nil]; omega) _ (fun hn => ?_) (fun hn => ?_)
    · simp only [foldT]; rw [if_pos hn]
    · have n1 : (need (Tr.two x a b).root.f0).1 = 2 := hg.1
      simp only [foldT]
      rewrite [if_neg (by rw [n1]; decide), e1, hb]
      simp only [Option.bind_some]
      rewrite [if_pos n1, hfr]
      simp only [Option.bind_some]
      rewrite [e2, ha]
      simp only [Option.bind_some]
      rewrite [if_pos (by omega), if_pos (by rw [List.length_append]; omega), if_neg (by rw [hn]; decide)]
      rfl
theorem kindOf_tree (k : Nat) (tr : Tr) (ht : tr.flat.length ≤ 48) (hk : 3 < k) : impl_kindOf.f k tr.flat = some (need tr.root.f0).2.2 := by
  have hp := flat_pos tr
  have e1 : wrap64 ((tr.flat.length : Int) - 1) = (tr.flat.length : Int) - 1 := wrap64_id _ (by omega) (by omega)
  have hr := stands_rd (stands_all tr) ((tr.flat.length : Int) - 1) (by omega)
  unfold impl_kindOf.f
  rewrite [e1, if_pos (by omega), if_pos (by omega), hr, need_impl _ _ hk]
  simp only [Option.bind_some]
  rw [(needI_eq tr.root.f0).2.1]
theorem fold_impl (w v : Int) (h1 : 1 ≤ w) (h2 : w ≤ 64) (tr : Tr) : ∀ (k : Nat) (kd : Int), tr.good w v kd → (∀ x ∈ tr.flat, 0 ≤ x.f1) → tr.flat.length ≤ 48 → 4 * tr.flat.length + 401 < k → impl_fold.f k w tr.flat = some (foldT w tr) := by
  have start : ∀ (tr : Tr) (k : Nat) (kd : Int), tr.good w v kd → (∀ x ∈ tr.flat, 0 ≤ x.f1) → tr.flat.length ≤ 48 → 400 < k → ∀ R : Option (List Nd),
      (noVars tr.flat = true → R = some [single w tr]) → (noVars tr.flat = false → impl_fold.l0 k w tr.flat [tr.root] ((tr.flat.length : Int) - 1) = R) → impl_fold.f (k + 1) w tr.flat = R := by
    intro tr k kd hg h0 ht hk R hR1 hR2
    have hp := flat_pos tr
    have e1 : wrap64 ((tr.flat.length : Int) - 1) = (tr.flat.length : Int) - 1 := wrap64_id _ (by omega) (by omega)
    have hr := stands_rd (stands_all tr) ((tr.flat.length : Int) - 1) (by omega)
    simp only [impl_fold.f]
    rewrite [vars_impl _ ht]
    simp only [Option.bind_some]
    by_cases hn : noVars tr.flat = true
    · have hz : ((putAllS (varsAt tr.flat) []).length : Int) = 0 := by simpa [noVars] using hn
      rewrite [if_pos hz, kindOf_tree k tr ht (by omega)]
      simp only [Option.bind_some]
      rewrite [valueOf_nil k w v h1 h2 [] (by simp) tr kd hg (noVars_fits hn h0) ht (by omega), hR1 hn]
      simp only [Option.bind_some]
      unfold single
      split <;> rfl
    · have hz : ¬ ((putAllS (varsAt tr.flat) []).length : Int) = 0 := by simpa [noVars] using hn
      rewrite [if_neg hz, e1, if_pos (by omega), if_pos (by omega), hr, eta]
      exact hR2 (by simpa using hn)
  induction tr with
  | leaf x =>
    intro k kd hg h0 ht hk
    obtain ⟨k, rfl⟩ : ∃ m, k = m + 1 := ⟨k - 1, by omega⟩
    refine start _ k kd hg h0 ht (by omega) _ (fun hn => ?_) (fun hn => ?_)
    · simp only [foldT]; rw [if_pos hn]
    · obtain ⟨k, rfl⟩ : ∃ m, k = m + 1 := ⟨k - 1, by omega⟩
      have hl1 : (Tr.leaf x).flat.length = 1 := rfl
      simp only [impl_fold.l0, foldT]
      rewrite [if_neg (by omega), if_neg (by rw [hn]; decide)]
      rfl
  | one x a iha =>
    intro k kd hg h0 ht hk
    obtain ⟨k, rfl⟩ : ∃ m, k = m + 1 := ⟨k - 1, by omega⟩
    have hpa := flat_pos a
    have hfl := foldT_len w a
    have hlen : (Tr.one x a).flat.length = a.flat.length + 1 := by simp [Tr.flat]
    have st := stands_one (stands_all (.one x a))
    have hc := stands_cut st
    refine start _ k kd hg h0 ht (by omega) _ (fun hn => ?_) (fun hn => ?_)
    · simp only [foldT]; rw [if_pos hn]
    · obtain ⟨k, rfl⟩ : ∃ m, k = m + 2 := ⟨k - 2, by omega⟩
      have ha := iha (k + 1) _ hg.2.2.2.2 (fun z hz => h0 z (by simp [Tr.flat, hz])) (by omega) (by omega)
      have e1 : wrap64 (((Tr.one x a).flat.length : Int) - 1 - 1) = (a.flat.length : Int) - 1 := by rw [wrap64_id _ (by omega) (by omega)]; omega
      have hst := start_val w v _ ht a 0 (k + 1) _ ((a.flat.length : Int) - 1) st hg.2.2.2.2 (by omega) (by omega)
      have e2 : ((Tr.one x a).flat.length : Int) - 1 = ((0 + a.flat.length : Nat) : Int) := by omega
      simp only [foldT]
      rewrite [if_neg (by rw [hn]; decide)]
      simp only [impl_fold.l0]
      rewrite [if_pos (by omega), e1, hst]
      simp only [Option.bind_some]
      rewrite [if_pos (by omega), if_pos (by omega), if_pos (by omega), e2, Int.toNat_natCast, Int.toNat_natCast, hc, ha]
      simp only [Option.bind_some]
      rewrite [if_pos (by simp; omega), if_neg (by omega)]
      rfl
  | two x a b iha ihb =>
    intro k kd hg h0 ht hk
    obtain ⟨k, rfl⟩ : ∃ m, k = m + 1 := ⟨k - 1, by omega⟩
    have hpa := flat_pos a
    have hpb := flat_pos b
    have hfa := foldT_len w a
    have hfb := foldT_len w b
    have hlen : (Tr.two x a b).flat.length = a.flat.length + (b.flat.length + 1) := by simp [Tr.flat]
    obtain ⟨s1, s2⟩ := stands_two (stands_all (.two x a b))
    have hc1 := stands_cut s1
    have hc2 := stands_cut s2
    refine start _ k kd hg h0 ht (by omega) _ (fun hn => ?_) (fun hn => ?_)
    · simp only [foldT]; rw [if_pos hn]
    · obtain ⟨k, rfl⟩ : ∃ m, k = m + 3 := ⟨k - 3, by omega⟩
      have ha := iha (k + 1) _ hg.2.2.2.2.1 (fun z hz => h0 z (by simp [Tr.flat, hz])) (by omega) (by omega)
      have hb := ihb (k + 2) _ hg.2.2.2.2.2 (fun z hz => h0 z (by simp [Tr.flat, hz])) (by omega) (by omega)
      have e1 : wrap64 (((Tr.two x a b).flat.length : Int) - 1 - 1) = ((0 + a.flat.length : Nat) : Int) + (b.flat.length : Int) - 1 := by rw [wrap64_id _ (by omega) (by omega)]; omega
      have hst1 := start_val w v _ ht b (0 + a.flat.length) (k + 2) _ _ s2 hg.2.2.2.2.2 rfl (by omega)
      have e2 : ((Tr.two x a b).flat.length : Int) - 1 = ((0 + a.flat.length + b.flat.length : Nat) : Int) := by omega
      have e3 : wrap64 (((0 + a.flat.length : Nat) : Int) - 1) = ((0 : Nat) : Int) + (a.flat.length : Int) - 1 := by rw [wrap64_id _ (by omega) (by omega)]; omega
      have hst2 := start_val w v _ ht a 0 (k + 1) _ _ s1 hg.2.2.2.2.1 rfl (by omega)
      simp only [foldT]
      rewrite [if_neg (by rw [hn]; decide)]
      simp only [impl_fold.l0]
      rewrite [if_pos (by omega), e1, hst1]
      simp only [Option.bind_some]
      rewrite [if_pos (by omega), if_pos (by omega), if_pos (by omega), e2, Int.toNat_natCast, Int.toNat_natCast, hc2, hb]
      simp only [Option.bind_some]
      rewrite [if_pos (by simp; omega), if_pos (by omega), e3, hst2]
      simp only [Option.bind_some]
      rewrite [if_pos (by omega), if_pos (by omega), if_pos (by omega), Int.toNat_natCast, hc1, ha]
      simp only [Option.bind_some]
      rewrite [if_pos (by simp; omega), if_neg (by omega)]
      simp only [Tr.root, List.append_assoc]
end Go.Proofs.Ytckdgmbmjfhodaa.Pure

namespace Go.Proofs.Ytckdgmbmjfhodaa.Pure
open Go.RowKit Go.Proofs.Ytckdgmbmjfhodaa.X Go.Proofs.YtckdgmbmjfhodaaW.PrintWords Go.Proofs.YtckdgmbmjfhodaaW.PrintLast Go.Proofs.YtckdgmbmjfhodaaW.PrintMore Go.Proofs.Ytckdgmbmjfhodaa.Bits
/-- A list of n elements, numbered on from m. -/
def mkNode (m : Int) : Nat → List S52
  | 0 => []
  | n + 1 => ⟨m, m + 1⟩ :: mkNode (m + 2) n
theorem mkNode_len (n : Nat) : ∀ m, (mkNode m n).length = n := by
  induction n with
  | zero => intro m; rfl
  | succ n ih => intro m; simp [mkNode, ih]
theorem mkNode_snoc (n : Nat) : ∀ m, mkNode m (n + 1) = mkNode m n ++ [⟨m + 2 * (n : Int), m + 2 * (n : Int) + 1⟩] := by
  induction n with
  | zero => intro m; simp [mkNode]
  | succ n ih =>
    intro m
    rw [mkNode, ih (m + 2), mkNode, List.cons_append]
    have : m + 2 + 2 * (n : Int) = m + 2 * ((n + 1 : Nat) : Int) := by omega
    rw [this]
theorem mkNode_at (m : Int) (n i : Nat) (h : i < n) : rd_T52 (mkNode m n) (i : Int) = ⟨m + 2 * (i : Int), m + 2 * (i : Int) + 1⟩ := by
  induction n generalizing m i with
  | zero => omega
  | succ n ih =>
    cases i with
    | zero => simp [rd_T52, mkNode]
    | succ i =>
      have := ih (m + 2) i (by omega)
      unfold rd_T52 at this ⊢
      rw [Int.toNat_natCast] at this ⊢
      rw [mkNode, List.getD_cons_succ, this]
      have e : m + 2 + 2 * (i : Int) = m + 2 * ((i + 1 : Nat) : Int) := by omega
      rw [e]
theorem markNode_loop (b : Int) (hb : 0 ≤ b) (hb2 : b ≤ 100000000) (l : List S52) (hl : l.length ≤ 1048576) (d : Nat) : ∀ (i k : Nat), i + d = l.length → d < k →
    laws_markNodeS.l0 k (mkNode b i ++ l.drop i) (b + 2 * (i : Int)) (i : Int) = some (b + 2 * (l.length : Int), mkNode b l.length) := by
  induction d with
  | zero =>
    intro i k hi hk
    obtain ⟨k, rfl⟩ : ∃ m, k = m + 1 := ⟨k - 1, by omega⟩
    obtain rfl : i = l.length := by omega
    simp only [laws_markNodeS.l0]
    rw [if_neg (by simp [mkNode_len]), List.drop_eq_nil_of_le (by omega), List.append_nil]
  | succ d ih =>
    intro i k hi hk
    obtain ⟨k, rfl⟩ : ∃ m, k = m + 1 := ⟨k - 1, by omega⟩
    have hit : i < l.length := by omega
    have e1 : wrap64 ((i : Int) + 1) = ((i + 1 : Nat) : Int) := by rw [wrap64_id _ (by omega) (by omega)]; omega
    have q0 : wrap64 (b + 2 * (i : Int) + 1) = b + 2 * (i : Int) + 1 := by rw [wrap64_id _ (by omega) (by omega)]
    have q1 : wrap64 (b + 2 * (i : Int) + 1 + 1) = b + 2 * ((i + 1 : Nat) : Int) := by rw [wrap64_id _ (by omega) (by omega)]; omega
    have w1 : IntKind.u64.wrap (b + 2 * (i : Int) + 1) = b + 2 * (i : Int) + 1 := u64_id _ (by omega) (by omega)
    have hd : l.drop i = l[i] :: l.drop (i + 1) := List.drop_eq_getElem_cons hit
    have hset : ∀ y z : S52, (mkNode b i ++ y :: l.drop (i + 1)).set i z = mkNode b i ++ z :: l.drop (i + 1) := fun y z => set_mid _ _ _ _ _ (by rw [mkNode_len])
    have hrd : ∀ y : S52, rd_T52 (mkNode b i ++ y :: l.drop (i + 1)) (i : Int) = y := by
      intro y
      rw [rdNode_at (by simp [mkNode_len]), List.getElem_append_right (by rw [mkNode_len]; omega)]
      simp [mkNode_len]
    simp only [laws_markNodeS.l0]
    rewrite [if_pos (by simp [mkNode_len]; omega), if_pos (by omega)]
    (try simp only [Option.bind_some])
    rewrite [hd, Int.toNat_natCast, hset, hset, hrd, hrd, e1, q0, q1, w1]
    have := ih (i + 1) k (by omega) (by omega)
    rw [mkNode_snoc, List.append_assoc] at this
    exact this
theorem markNode_val (k : Nat) (b : Int) (hb : 0 ≤ b) (hb2 : b ≤ 100000000) (l : List S52) (hl : l.length ≤ 1048576) (hk : l.length < k) : laws_markNodeS.f k l b = some (b + 2 * (l.length : Int), mkNode b l.length) := by
  have := markNode_loop b hb hb2 l hl l.length 0 k (by omega) hk
  unfold laws_markNodeS.f
  simpa [mkNode] using this
theorem heldNode_loop (b : Int) (hb : 0 ≤ b) (hb2 : b ≤ 100000000) (n : Nat) (hn : n ≤ 1048576) (d : Nat) : ∀ (i k : Nat), i + d = n → d < k →
    laws_heldNodeS.l0 k (mkNode b n) (b + 2 * (i : Int)) (i : Int) = some (b + 2 * (n : Int)) := by
  induction d with
  | zero =>
    intro i k hi hk
    obtain ⟨k, rfl⟩ : ∃ m, k = m + 1 := ⟨k - 1, by omega⟩
    obtain rfl : i = n := by omega
    simp only [laws_heldNodeS.l0]
    rw [if_neg (by rw [mkNode_len]; omega)]
  | succ d ih =>
    intro i k hi hk
    obtain ⟨k, rfl⟩ : ∃ m, k = m + 1 := ⟨k - 1, by omega⟩
    have e1 : wrap64 ((i : Int) + 1) = ((i + 1 : Nat) : Int) := by rw [wrap64_id _ (by omega) (by omega)]; omega
    have q0 : wrap64 (b + 2 * (i : Int) + 1) = b + 2 * (i : Int) + 1 := by rw [wrap64_id _ (by omega) (by omega)]
    have q1 : wrap64 (b + 2 * (i : Int) + 1 + 1) = b + 2 * ((i + 1 : Nat) : Int) := by rw [wrap64_id _ (by omega) (by omega)]; omega
    have w1 : IntKind.u64.wrap (b + 2 * (i : Int) + 1) = b + 2 * (i : Int) + 1 := u64_id _ (by omega) (by omega)
    simp only [laws_heldNodeS.l0]
    rewrite [if_pos (by rw [mkNode_len]; omega), if_pos (by omega), mkNode_at b n i (by omega), q0, q1, w1]
    rewrite [if_pos (by rfl), if_pos (by rfl), e1]
    exact ih (i + 1) k (by omega) (by omega)
theorem heldNode_val (k : Nat) (b : Int) (hb : 0 ≤ b) (hb2 : b ≤ 100000000) (n : Nat) (hn : n ≤ 1048576) (hk : n < k) : laws_heldNodeS.f k (mkNode b n) b = some (b + 2 * (n : Int)) := by
  have := heldNode_loop b hb hb2 n hn n 0 k (by omega) hk
  unfold laws_heldNodeS.f
  simpa using this

end Go.Proofs.Ytckdgmbmjfhodaa.Pure

namespace Go.Proofs.Ytckdgmbmjfhodaa.Pure
open Go.RowKit Go.Proofs.Ytckdgmbmjfhodaa.X Go.Proofs.YtckdgmbmjfhodaaW.PrintWords Go.Proofs.YtckdgmbmjfhodaaW.PrintLast Go.Proofs.Ytckdgmbmjfhodaa.Bits

theorem fold_both (k : Nat) (w v : Int) (t : List Nd) (hok : okNodes t) (hk : 700 < k) : ∃ r : List Nd × Bool, r.1.length ≤ 48 ∧ spec_FoldTerm.f k w v t = some r ∧ ∀ k, 700 < k → impl_FoldTerm.f k w v t = some r := by
  unfold spec_FoldTerm.f
  rewrite [goodTerm_spec k w v t hok (by omega)]
  simp only [Option.bind_some, decide_eq_true_eq]
  by_cases hg : kindT w v t > 0
  · have hgi := hg
    unfold kindT at hgi
    split at hgi
    case isFalse => exact absurd hgi (by decide)
    rename_i hc
    rewrite [if_pos hg]
    obtain ⟨tr, htr, hf⟩ := kind_tree w v t hg
    subst hf
    have hlen := hc.2.2.2.2.2
    have hp := flat_pos tr
    have h0 : ∀ x ∈ tr.flat, 0 ≤ x.f1 := fun x hx => (hok x hx).1
    have hfl := foldT_len w tr
    have hs := fold_spec w v hc.1 hc.2.1 tr.flat (by omega) tr 0 k _ ((tr.flat.length : Int) - 1) (stands_all tr) htr h0 (by omega) (by omega)
    rewrite [wrap64_id _ (by omega) (by omega), hs]
    refine ⟨(foldT w tr, true), by simp only; omega, rfl, fun k hk => ?_⟩
    unfold impl_FoldTerm.f
    rewrite [goodTerm_impl k w v tr.flat hok (by omega)]
    simp only [Option.bind_some, decide_eq_true_eq]
    rewrite [if_pos hg, fold_impl w v hc.1 hc.2.1 tr k _ htr h0 (by omega) (by omega)]
    rfl
  · rewrite [if_neg hg]
    refine ⟨_, by simp, rfl, fun k hk => ?_⟩
    unfold impl_FoldTerm.f
    rewrite [goodTerm_impl k w v t hok (by omega)]
    simp only [Option.bind_some, decide_eq_true_eq]
    rewrite [if_neg hg]
    rfl
theorem FnExactFoldTerm : laws_FnExactFoldTerm.Pure := by
  intro w v l _ _ hl
  have hlen := hl.1
  simp only [maxLen] at hlen
  refine ⟨rounds l, ?_⟩
  unfold laws_FnExactFoldTerm.f
  rewrite [sz_val l hlen]
  simp only [Option.bind_some]
  by_cases hbig : 1048576 < l.length
  · rw [if_pos hbig, if_pos (by decide)]
  · have hk : l.length < rounds l := by unfold rounds; omega
    have hk2 : 1000 < rounds l := by unfold rounds; omega
    have hok := conv_ok l hl.2
    obtain ⟨r, hr48, h1, h2⟩ := fold_both (rounds l) w v (l.map conv) hok (by omega)
    have hml : (l.map conv).length = l.length := by simp
    have heq : ∀ k, 1000 < k → laws_eqNodeS.f k r.1 r.1 = some true := fun k hk => eqNodes_val k r.1 (by omega) (by omega)
    have hmk : ∀ k, 1000 < k → laws_markNodeS.f k r.1 1 = some (1 + 2 * (r.1.length : Int), mkNode 1 r.1.length) := fun k hk => markNode_val k 1 (by omega) (by omega) r.1 (by omega) (by omega)
    have hhd : ∀ k, 1000 < k → laws_heldNodeS.f k (mkNode 1 r.1.length) 1 = some (1 + 2 * (r.1.length : Int)) := fun k hk => heldNode_val k 1 (by omega) (by omega) _ (by omega) (by omega)
    have hb : (r.2 != r.2) = false := by simp
    have g2 : ∀ k, 1001 < k → laws_FnExactFoldTerm.j2 k (mkNode 1 r.1.length) (1 + 2 * (r.1.length : Int)) false = some true := by
      intro k hkk
      obtain ⟨k, rfl⟩ : ∃ m, k = m + 1 := ⟨k - 1, by omega⟩
      simp only [laws_FnExactFoldTerm.j2]
      rewrite [if_neg (by decide), hhd k (by omega)]
      simp only [Option.bind_some]
      rewrite [if_neg (by omega), if_pos trivial]; rfl
    have g1 : ∀ k, rounds l - 1 ≤ k + 1 → laws_FnExactFoldTerm.j1 (k + 1) w v l r.1 r.2 r.1 false = some true := by
      intro k hkk
      simp only [laws_FnExactFoldTerm.j1]
      have hk3 : 1002 < k := by unfold rounds at hkk; omega
      rewrite [if_neg (by decide), hmk k (by omega)]
      simp only [Option.bind_some]
      rewrite [hhd k (by omega)]
      simp only [Option.bind_some]
      rewrite [if_neg (by omega), if_pos trivial, toNodes_val k l (by omega) (by unfold rounds at hkk; omega)]
      simp only [Option.bind_some]
      rewrite [h2 k (by omega)]
      simp only [Option.bind_some]
      rewrite [heq k (by omega)]
      simp only [Option.bind_some, if_true]
      rewrite [hb]
      exact g2 k (by omega)
    have g0 : ∀ k, rounds l ≤ k → laws_FnExactFoldTerm.j0 k w v l r.1 r.2 (l.map conv) r.1 r.2 false = some true := by
      intro k hkk
      obtain ⟨k, rfl⟩ : ∃ m, k = m + 2 := ⟨k - 2, by omega⟩
      simp only [laws_FnExactFoldTerm.j0]
      have hk3 : 1002 < k := by unfold rounds at hkk; omega
      rewrite [if_neg (by decide), toNodes_val (k + 1) l (by omega) (by unfold rounds at hkk; omega)]
      simp only [Option.bind_some]
      rewrite [eqNodes_val (k + 1) _ (by simp; omega) (by simp; unfold rounds at hkk; omega)]
      simp only [Option.bind_some, if_true]
      rewrite [markNode_val (k + 1) 1 (by omega) (by omega) (l.map conv) (by omega) (by unfold rounds at hkk; omega)]
      simp only [Option.bind_some]
      rewrite [if_neg (by omega), heq (k + 1) (by omega)]
      simp only [Option.bind_some, if_true]
      rewrite [hb]
      exact g1 k (by omega)
    rewrite [if_neg hbig, if_neg (by omega), toNodes_val _ l (by omega) hk]
    simp only [Option.bind_some]
    rewrite [h1, h2 _ (by omega)]
    simp only [Option.bind_some]
    rewrite [heq _ (by omega)]
    simp only [Option.bind_some, if_true]
    rewrite [hb]
    exact g0 _ (Nat.le_refl _)
end Go.Proofs.Ytckdgmbmjfhodaa.Pure
