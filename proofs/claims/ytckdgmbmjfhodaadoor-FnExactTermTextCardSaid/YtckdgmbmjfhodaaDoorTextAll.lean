/- Bits of 64-bit words as the model tells them: and, or, xor, shifts and masks as remainders and powers of two. No condition. What the functions on words compute: each printed function's value, in terms of remainders and powers of two. Conditions: the numbers are of their kinds. Terms as lists of nodes: what an operator needs, whether a node's number fits, and the stack of kinds; the reference's and the program's functions come to these. Conditions: numbers are of their kinds, lists no longer than 2^20. Lists of nodes as the laws hand them over: copied, compared, measured. Conditions: those named. Good terms as trees: a list of nodes that the stack of kinds takes is a tree's nodes in order; a run over a stack of values comes to the tree's own value. Conditions: none beyond those named. Where a tree's nodes begin: the reference's l2From over places. Conditions: those named. The text of a term's tree; the reference's recursion and the program's stack come to it. Conditions: those named. The program's stack of texts comes to the text of the term's tree. Conditions: those named. The law on TermText. Conditions: those of the law's own Pure. -/
import Derived.Test.YtckdgmbmjfhodaaDoorWMore
import Derived.Laws.BitsLemmas
import Derived.Test.YtckdgmbmjfhodaaDoorXO
import Derived.Test.YtckdgmbmjfhodaaDoorX1
import Derived.Test.YtckdgmbmjfhodaaDoorX11
import Derived.Test.YtckdgmbmjfhodaaDoorX13
import Derived.Test.YtckdgmbmjfhodaaDoorX14
import Derived.Test.YtckdgmbmjfhodaaDoorX15
import Derived.Test.YtckdgmbmjfhodaaDoorX16
import Derived.Test.YtckdgmbmjfhodaaDoorX17
import Derived.Test.YtckdgmbmjfhodaaDoorX18
import Derived.Test.YtckdgmbmjfhodaaDoorX2
import Derived.Test.YtckdgmbmjfhodaaDoorX3
import Derived.Test.YtckdgmbmjfhodaaDoorX4
import Derived.Test.YtckdgmbmjfhodaaDoorX5
import Derived.Test.YtckdgmbmjfhodaaDoorX6
import Derived.Test.YtckdgmbmjfhodaaDoorX7
import Derived.Test.YtckdgmbmjfhodaaDoorX8
import Derived.Test.YtckdgmbmjfhodaaDoorX9
namespace Go.Proofs.YtckdgmbmjfhodaaDoor.Bits
open Go.RowKit Go.Proofs.YtckdgmbmjfhodaaDoorW.PrintWords

theorem wrap_u64 (n : Int) : IntKind.u64.wrap n = n % 18446744073709551616 := by simp [IntKind.wrap, IntKind.bits, IntKind.signed]
theorem wraps_u64 (n : Int) (h₀ : 0 ≤ n) (h₁ : n < 2 ^ 64) : IntKind.u64.wrap n = n := by rw [wrap_u64]; omega
theorem u64_id (n : Int) (h₀ : 0 ≤ n) (h₁ : n < 18446744073709551616) : IntKind.u64.wrap n = n := by rw [wrap_u64]; omega
theorem u64_range (n : Int) : 0 ≤ IntKind.u64.wrap n ∧ IntKind.u64.wrap n < 18446744073709551616 := by rw [wrap_u64]; omega
theorem and_u64 (a b : Nat) (ha : a < 2 ^ 64) (hb : b < 2 ^ 64) : Go.bits .and .u64 a b = ((a &&& b : Nat) : Int) := (bits_nat .u64 64 (by decide) wraps_u64 a b ha hb).1
theorem or_u64 (a b : Nat) (ha : a < 2 ^ 64) (hb : b < 2 ^ 64) : Go.bits .or .u64 a b = ((a ||| b : Nat) : Int) := (bits_nat .u64 64 (by decide) wraps_u64 a b ha hb).2
theorem xor_nat (k : IntKind) (j : Nat) (hj : j ≤ k.bits) (hk : ∀ n : Int, 0 ≤ n → n < 2 ^ j → k.wrap n = n) (a b : Nat) (ha : a < 2 ^ j) (hb : b < 2 ^ j) :
    Go.bits .xor k a b = ((a ^^^ b : Nat) : Int) := by
  have hp : 2 ^ j ≤ 2 ^ k.bits := Nat.pow_le_pow_right (by decide) hj
  have ha' : a % 2 ^ k.bits = a := Nat.mod_eq_of_lt (Nat.lt_of_lt_of_le ha hp)
  have hb' : b % 2 ^ k.bits = b := Nat.mod_eq_of_lt (Nat.lt_of_lt_of_le hb hp)
  show k.wrap ((BitVec.ofInt k.bits (a : Int) ^^^ BitVec.ofInt k.bits (b : Int)).toNat : Int) = _
  rw [BitVec.ofInt_natCast, BitVec.ofInt_natCast, BitVec.toNat_xor, BitVec.toNat_ofNat, BitVec.toNat_ofNat, ha', hb']
  have h := Int.ofNat_lt.mpr (Nat.xor_lt_two_pow ha hb)
  rw [Int.natCast_pow] at h
  exact hk _ (Int.natCast_nonneg _) h
theorem xor_u64 (a b : Nat) (ha : a < 2 ^ 64) (hb : b < 2 ^ 64) : Go.bits .xor .u64 a b = ((a ^^^ b : Nat) : Int) := xor_nat .u64 64 (by decide) wraps_u64 a b ha hb
theorem bits_range (op : BinOp) (a b : Int) : 0 ≤ Go.bits op .u64 a b ∧ Go.bits op .u64 a b < 18446744073709551616 := by
  unfold Go.bits; exact u64_range _
theorem wf_i64 {a : Int} (h : (Lit.int .i64 a).wf = true) : -9223372036854775808 ≤ a ∧ a ≤ 9223372036854775807 := by
  simpa [Lit.wf, IntKind.min, IntKind.max, IntKind.signed, IntKind.bits] using h
theorem wf_u64 {a : Int} (h : (Lit.int .u64 a).wf = true) : 0 ≤ a ∧ a < 18446744073709551616 := by
  have : 0 ≤ a ∧ a ≤ 18446744073709551615 := by
    simpa [Lit.wf, IntKind.min, IntKind.max, IntKind.signed, IntKind.bits] using h
  omega
theorem wrap64_id (n : Int) (h0 : -9223372036854775808 ≤ n) (h1 : n ≤ 9223372036854775807) : wrap64 n = n := by unfold wrap64; omega

theorem pow_le (n : Nat) (h : n ≤ 64) : (2 : Int) ^ n ≤ 18446744073709551616 := by
  have h2 := Int.ofNat_le.mpr (Nat.pow_le_pow_right (n := 2) (by decide) h)
  rw [Int.natCast_pow] at h2
  exact h2
theorem pow_pos (n : Nat) : (0 : Int) < 2 ^ n := Int.pow_pos (by decide)

theorem shl_one (k : Nat) (h : k < 64) : shl .u64 1 (k : Int) = ((2 ^ k : Nat) : Int) := by
  have hb : IntKind.u64.bits = 64 := rfl
  unfold shl
  rw [hb, Int.toNat_natCast, Nat.min_eq_left (by omega), Int.one_mul, wraps_u64]
  · simp
  · exact Int.le_of_lt (Int.pow_pos (by decide))
  · exact_mod_cast Nat.pow_lt_pow_right (by decide) h
theorem mod_or_and (a k : Nat) : (a % 2 ^ k) ||| (a &&& 2 ^ k) = a % 2 ^ (k + 1) := by
  apply Nat.eq_of_testBit_eq
  intro i
  simp only [Nat.testBit_or, Nat.testBit_mod_two_pow, Nat.testBit_and, Nat.testBit_two_pow]
  by_cases h : i < k
  · have h2 : ¬ k = i := by omega
    have h3 : i < k + 1 := by omega
    simp [h, h2, h3]
  · by_cases h2 : k = i
    · subst h2; simp
    · have h3 : ¬ i < k + 1 := by omega
      simp [h, h2, h3]
/-- One round of the lower bits, bit by bit. -/
theorem cut_step (a : Int) (k : Nat) (h0 : 0 ≤ a) (ha : a < 18446744073709551616) (hk : k < 64) :
    Go.bits .or .u64 (a % 2 ^ k) (Go.bits .and .u64 a (shl .u64 1 (k : Int))) = a % 2 ^ (k + 1) := by
  obtain ⟨n, rfl⟩ := Int.eq_ofNat_of_zero_le h0
  have hn : n < 2 ^ 64 := by omega
  have e1 : ((n : Int) % 2 ^ k) = ((n % 2 ^ k : Nat) : Int) := by simp
  have e2 : ((n : Int) % 2 ^ (k + 1)) = ((n % 2 ^ (k + 1) : Nat) : Int) := by simp
  rw [e1, e2, shl_one k hk, and_u64 n _ hn (Nat.pow_lt_pow_right (by decide) hk), or_u64 _ _ (Nat.lt_of_le_of_lt (Nat.mod_le _ _) hn) (Nat.and_lt_two_pow _ (Nat.pow_lt_pow_right (by decide) hk)), mod_or_and]
theorem mask_val (w : Int) (h0 : 1 ≤ w) (h1 : w ≤ 64) : shr .u64 18446744073709551615 (64 - w) = 2 ^ w.toNat - 1 := by
  obtain ⟨n, rfl⟩ := Int.eq_ofNat_of_zero_le (show 0 ≤ w by omega)
  have hb : IntKind.u64.bits = 64 := rfl
  unfold shr
  rw [hb, Int.toNat_natCast, Nat.min_eq_left (by omega)]
  have e : (64 - (n : Int)).toNat = 64 - n := by omega
  rw [e]
  have hn : n ≤ 64 := by omega
  have hp : 0 < n := by omega
  have h2 : 2 ^ (64 - n) * 2 ^ n = 2 ^ 64 := by rw [← Nat.pow_add]; congr 1; omega
  have hx : 0 < 2 ^ (64 - n) := Nat.two_pow_pos _
  have hy : 0 < 2 ^ n := Nat.two_pow_pos _
  have h3 : (18446744073709551615 : Nat) / 2 ^ (64 - n) = 2 ^ n - 1 := by
    rw [Nat.div_eq_iff hx]
    have h4 : (2 ^ n - 1) * 2 ^ (64 - n) = 2 ^ 64 - 2 ^ (64 - n) := by rw [Nat.sub_mul, Nat.mul_comm, h2]; omega
    have h5 : 2 ^ (64 - n) ≤ 2 ^ 64 := Nat.pow_le_pow_right (by decide) (by omega)
    rw [h4]
    omega
  have h6 : (18446744073709551615 : Int) / 2 ^ (64 - n) = (((18446744073709551615 : Nat) / 2 ^ (64 - n) : Nat) : Int) := by simp
  rw [h6, h3, Int.natCast_sub hy]
  simp
theorem and_mask (a : Int) (n : Nat) (h0 : 0 ≤ a) (ha : a < 18446744073709551616) (hn : n ≤ 64) : Go.bits .and .u64 a (2 ^ n - 1) = a % 2 ^ n :=
  bits_mask .u64 64 (by decide) wraps_u64 n hn a h0 ha
/-- The lowest bit. -/
theorem and_one (a : Int) (h0 : 0 ≤ a) (ha : a < 18446744073709551616) : Go.bits .and .u64 a 1 = a % 2 := by
  have := and_mask a 1 h0 ha (by decide)
  simpa using this
/-- The complement. -/
theorem xor_max (a : Int) (h0 : 0 ≤ a) (ha : a < 18446744073709551616) : Go.bits .xor .u64 18446744073709551615 a = 18446744073709551615 - a := by
  obtain ⟨n, rfl⟩ := Int.eq_ofNat_of_zero_le h0
  have hn : n < 2 ^ 64 := by omega
  have := xor_u64 18446744073709551615 n (by decide) hn
  rw [show ((18446744073709551615 : Nat) : Int) = 18446744073709551615 from rfl] at this
  rw [this]
  have h2 : (18446744073709551615 : Nat) ^^^ n = 18446744073709551615 - n := by
    have e1 : (BitVec.allOnes 64 ^^^ BitVec.ofNat 64 n).toNat = 18446744073709551615 ^^^ n := by
      rw [BitVec.toNat_xor, BitVec.toNat_allOnes, BitVec.toNat_ofNat, Nat.mod_eq_of_lt hn]
    have e2 : (BitVec.allOnes 64 ^^^ BitVec.ofNat 64 n) = ~~~ BitVec.ofNat 64 n := BitVec.allOnes_xor
    rw [← e1, e2, BitVec.toNat_not, BitVec.toNat_ofNat, Nat.mod_eq_of_lt hn]
  rw [h2]
  omega
/-- A number below 2^i beside a multiple of 2^i. -/
theorem or_join (x y : Int) (i : Nat) (hi : i ≤ 64) (hx0 : 0 ≤ x) (hx : x % 2 ^ i = 0) (hx1 : x < 18446744073709551616) (hy0 : 0 ≤ y) (hy : y < 2 ^ i) : Go.bits .or .u64 x y = x + y :=
  bits_join .u64 64 (by decide) wraps_u64 i x y hx0 hx hx1 hy0 hy (by have := pow_le i hi; omega)
theorem or_comm (x y : Int) : Go.bits .or .u64 x y = Go.bits .or .u64 y x := by
  unfold Go.bits; simp only [BitVec.or_comm]
theorem or_join' (x y : Int) (i : Nat) (hi : i ≤ 64) (hx0 : 0 ≤ x) (hx : x % 2 ^ i = 0) (hx1 : x < 18446744073709551616) (hy0 : 0 ≤ y) (hy : y < 2 ^ i) : Go.bits .or .u64 y x = y + x := by
  rw [or_comm, or_join x y i hi hx0 hx hx1 hy0 hy, Int.add_comm]
/-- The words of a width. -/
def word (w a : Int) : Prop := 1 ≤ w ∧ w ≤ 64 ∧ 0 ≤ a ∧ a < 2 ^ w.toNat
instance (w a : Int) : Decidable (word w a) := by unfold word; infer_instance
theorem pow_split (w : Int) (h0 : 1 ≤ w) (h1 : w ≤ 64) : (2 : Int) ^ (64 - w).toNat * 2 ^ w.toNat = 18446744073709551616 := by
  rw [← Int.pow_add, show (64 - w).toNat + w.toNat = 64 by omega]; decide
theorem pow_half (w : Int) (h0 : 1 ≤ w) : (2 : Int) ^ w.toNat = 2 * 2 ^ (w - 1).toNat := by
  rw [show w.toNat = (w - 1).toNat + 1 by omega, Int.pow_succ]; omega
/-- The two's complement value. -/
def sgn (w a : Int) : Int := if a < 2 ^ (w - 1).toNat then a else a - 2 ^ w.toNat
end Go.Proofs.YtckdgmbmjfhodaaDoor.Bits

namespace Go.Proofs.YtckdgmbmjfhodaaDoor.Pure
open Go.RowKit Go.Proofs.YtckdgmbmjfhodaaDoor.X Go.Proofs.YtckdgmbmjfhodaaDoorW.PrintWords Go.Proofs.YtckdgmbmjfhodaaDoor.Bits

theorem l1In_val (a b c : Int) : spec_l1In.f a b c = some (decide (b ≤ a ∧ a ≤ c)) := by
  unfold spec_l1In.f
  by_cases h : a ≥ b
  · rw [if_pos h]; simp [show b ≤ a from h]
  · rw [if_neg h]; simp [show ¬ b ≤ a from h]
theorem l1Wide_val (a : Int) : spec_l1Wide.f a = some (decide (1 ≤ a ∧ a ≤ 64)) := by
  unfold spec_l1Wide.f
  rw [l1In_val]; rfl
theorem isWide_val (a : Int) : impl_isWide.f a = some (decide (1 ≤ a ∧ a ≤ 64)) := by
  unfold impl_isWide.f
  by_cases h : a ≥ 1
  · rw [if_pos h]; simp [show 1 ≤ a from h]
  · rw [if_neg h]; simp [show ¬ 1 ≤ a from h]
theorem mask_f (w : Int) (h0 : 1 ≤ w) (h1 : w ≤ 64) : impl_mask.f w = some (2 ^ w.toNat - 1) := by
  unfold impl_mask.f
  have e : wrap64 (64 - w) = 64 - w := wrap64_id _ (by omega) (by omega)
  rw [e, if_pos (by omega), mask_val w h0 h1]
theorem cut_loop (w a : Int) (h0 : 0 ≤ a) (ha : a < 18446744073709551616) (hw : w ≤ 64) (d : Nat) :
    ∀ (k i : Nat), (i : Int) + d = w → d < k → spec_l1Cut.l0 k w a (a % 2 ^ i) (i : Int) = some (a % 2 ^ w.toNat) := by
  induction d with
  | zero =>
    intro k i hi hk
    obtain ⟨k, rfl⟩ : ∃ m, k = m + 1 := ⟨k - 1, by omega⟩
    simp only [spec_l1Cut.l0]
    rw [if_neg (by omega), show w.toNat = i by omega]
  | succ d ih =>
    intro k i hi hk
    obtain ⟨k, rfl⟩ : ∃ m, k = m + 1 := ⟨k - 1, by omega⟩
    simp only [spec_l1Cut.l0]
    rw [if_pos (by omega), u64_id (i : Int) (by omega) (by omega), if_pos (by omega), cut_step a i h0 ha (by omega)]
    have e : wrap64 ((i : Int) + 1) = ((i + 1 : Nat) : Int) := by rw [wrap64_id _ (by omega) (by omega)]; omega
    rw [e]
    exact ih k (i + 1) (by omega) (by omega)
theorem cut_val (k : Nat) (w a : Int) (hk : 65 < k) (hw0 : 0 ≤ w) (hw : w ≤ 64) (h0 : 0 ≤ a) (ha : a < 18446744073709551616) :
    spec_l1Cut.f k w a = some (a % 2 ^ w.toNat) := by
  have := cut_loop w a h0 ha hw w.toNat k 0 (by omega) (by omega)
  unfold spec_l1Cut.f
  simpa using this
theorem cut_word (w a : Int) (h : word w a) : a % 2 ^ w.toNat = a := Int.emod_eq_of_lt h.2.2.1 h.2.2.2
theorem word_lt {w a : Int} (h : word w a) : a < 18446744073709551616 := Int.lt_of_lt_of_le h.2.2.2 (pow_le _ (by have := h.1; have := h.2.1; omega))
theorem goodWord_spec (k : Nat) (w a : Int) (hk : 65 < k) (h0 : 0 ≤ a) (ha : a < 18446744073709551616) : spec_GoodWord.f k w a = some (decide (word w a)) := by
  unfold spec_GoodWord.f
  rw [l1Wide_val]
  simp only [Option.bind_some]
  by_cases h : 1 ≤ w ∧ w ≤ 64
  · rw [if_pos (by simpa using h), cut_val k w a hk (by omega) h.2 h0 ha]
    simp only [Option.bind_some, Option.some.injEq]
    rw [Bool.eq_iff_iff]
    simp only [beq_iff_eq, decide_eq_true_eq]
    constructor
    · intro e
      refine ⟨h.1, h.2, h0, ?_⟩
      rw [← e]; exact Int.emod_lt_of_pos _ (pow_pos _)
    · exact cut_word w a
  · rw [if_neg (by simpa using h)]
    have : ¬ word w a := fun e => h ⟨e.1, e.2.1⟩
    simp [this]
theorem goodWord_impl (w a : Int) (h0 : 0 ≤ a) : impl_GoodWord.f w a = some (decide (word w a)) := by
  unfold impl_GoodWord.f
  rw [isWide_val]
  simp only [Option.bind_some]
  by_cases h : 1 ≤ w ∧ w ≤ 64
  · rw [if_pos (by simpa using h), mask_f w h.1 h.2]
    simp only [Option.bind_some, Option.some.injEq]
    rw [Bool.eq_iff_iff]
    simp only [decide_eq_true_eq]
    constructor
    · intro e; exact ⟨h.1, h.2, h0, by omega⟩
    · intro e; have := e.2.2.2; omega
  · rw [if_neg (by simpa using h)]
    have : ¬ word w a := fun e => h ⟨e.1, e.2.1⟩
    simp [this]
end Go.Proofs.YtckdgmbmjfhodaaDoor.Pure

namespace Go.Proofs.YtckdgmbmjfhodaaDoor.Pure
open Go.RowKit Go.Proofs.YtckdgmbmjfhodaaDoor.X Go.Proofs.YtckdgmbmjfhodaaDoorW.PrintWords Go.Proofs.YtckdgmbmjfhodaaDoorW.PrintLast Go.Proofs.YtckdgmbmjfhodaaDoor.Bits

abbrev Nd := S34
/-- What an operator takes: how many operands, of which kind, and the kind of its result. -/
def need (op : Int) : Int × Int × Int :=
  if op = 1 ∨ op = 2 then (0, 1, 1) else if op = 20 then (0, 2, 2) else if op = 13 then (1, 1, 1) else if op = 19 then (1, 2, 2)
  else if 3 ≤ op ∧ op ≤ 12 then (2, 1, 1) else if 14 ≤ op ∧ op ≤ 16 then (2, 1, 2) else if op = 17 ∨ op = 18 then (2, 2, 2) else (0, 0, 0)
theorem isVars_val (a : Int) : impl_isVars.f a = some (decide (1 ≤ a ∧ a ≤ 4)) := by
  unfold impl_isVars.f
  by_cases h : a ≥ 1
  · rw [if_pos h]; simp [show 1 ≤ a from h]
  · rw [if_neg h]; simp [show ¬ 1 ≤ a from h]
theorem need_spec (k : Nat) (op : Int) (hk : 3 < k) : spec_l2Need.f k op = some (need op) := by
  obtain ⟨k, rfl⟩ : ∃ m, k = m + 1 := ⟨k - 1, by omega⟩
  unfold spec_l2Need.f need
  by_cases h1 : op = 1
  · simp [h1, spec_l2Need.j0]
  · by_cases h2 : op = 2
    · simp [h2, spec_l2Need.j0]
    · have hb : (op == 2) = false := by simpa using h2
      rw [if_neg h1, hb, if_neg (by omega)]
      simp only [spec_l2Need.j0]
      rw [if_neg (by decide)]
      by_cases h3 : op = 20
      · simp [h3]
      · rw [if_neg h3, if_neg h3]
        by_cases h4 : op = 13
        · simp [h4]
        · rw [if_neg h4, if_neg h4]
          by_cases h5 : op = 19
          · simp [h5]
          · rw [if_neg h5, if_neg h5, l1In_val, l1In_val]
            simp only [Option.bind_some, decide_eq_true_eq]
            by_cases h6 : 3 ≤ op ∧ op ≤ 12
            · rw [if_pos h6, if_pos h6]
            · rw [if_neg h6, if_neg h6]
              by_cases h7 : 14 ≤ op ∧ op ≤ 16
              · rw [if_pos h7, if_pos h7]
              · rw [if_neg h7, if_neg h7]
                by_cases h8 : op = 17
                · simp [h8]
                · by_cases h9 : op = 18
                  · simp [h9]
                  · rw [if_neg h8, if_neg h9, if_neg (by omega)]
/-- The program's own table: of a leaf the operands' kind is 0. -/
def needI (op : Int) : Int × Int × Int :=
  if op = 1 ∨ op = 2 then (0, 0, 1) else if op = 20 then (0, 0, 2) else if op = 13 then (1, 1, 1) else if op = 19 then (1, 2, 2)
  else if 3 ≤ op ∧ op ≤ 12 then (2, 1, 1) else if 14 ≤ op ∧ op ≤ 16 then (2, 1, 2) else if op = 17 ∨ op = 18 then (2, 2, 2) else (0, 0, 0)
theorem needI_eq (op : Int) : (needI op).1 = (need op).1 ∧ (needI op).2.2 = (need op).2.2 ∧ ((need op).1 ≠ 0 → (needI op).2.1 = (need op).2.1) := by
  unfold needI need; (repeat' split) <;> simp
theorem need_impl (k : Nat) (op : Int) (hk : 3 < k) : impl_operandsOf.f k op = some (needI op) := by
  obtain ⟨k, rfl⟩ : ∃ m, k = m + 3 := ⟨k - 3, by omega⟩
  unfold impl_operandsOf.f needI
  by_cases h1 : op = 1
  · simp [h1, impl_operandsOf.j0]
  · by_cases h2 : op = 2
    · simp [h2, impl_operandsOf.j0]
    · have hb : (op == 2) = false := by simpa using h2
      rw [if_neg h1, hb, if_neg (by omega)]
      simp only [impl_operandsOf.j0]
      rw [if_neg (by decide)]
      by_cases h3 : op = 20
      · simp [h3]
      · rw [if_neg h3, if_neg h3]
        by_cases h4 : op = 13
        · simp [h4]
        · rw [if_neg h4, if_neg h4]
          by_cases h5 : op = 19
          · simp [h5]
          · rw [if_neg h5, if_neg h5]
            have e1 : (if op ≥ 3 then impl_operandsOf.j1 (k + 2) op (decide (op ≤ 12)) else impl_operandsOf.j1 (k + 2) op false) = impl_operandsOf.j1 (k + 2) op (decide (3 ≤ op ∧ op ≤ 12)) := by
              by_cases h : op ≥ 3
              · rw [if_pos h]; congr 1; simp [show 3 ≤ op from h]
              · rw [if_neg h]; congr 1; simp [show ¬ 3 ≤ op from h]
            rw [e1]
            simp only [impl_operandsOf.j1, decide_eq_true_eq]
            by_cases h6 : 3 ≤ op ∧ op ≤ 12
            · rw [if_pos h6, if_pos h6]
            · rw [if_neg h6, if_neg h6]
              have e2 : (if op ≥ 14 then impl_operandsOf.j2 (k + 1) op (decide (op ≤ 16)) else impl_operandsOf.j2 (k + 1) op false) = impl_operandsOf.j2 (k + 1) op (decide (14 ≤ op ∧ op ≤ 16)) := by
                by_cases h : op ≥ 14
                · rw [if_pos h]; congr 1; simp [show 14 ≤ op from h]
                · rw [if_neg h]; congr 1; simp [show ¬ 14 ≤ op from h]
              rw [e2]
              simp only [impl_operandsOf.j2, decide_eq_true_eq]
              by_cases h7 : 14 ≤ op ∧ op ≤ 16
              · rw [if_pos h7, if_pos h7]
              · rw [if_neg h7, if_neg h7]
                by_cases h8 : op = 17
                · simp [h8]
                · by_cases h9 : op = 18
                  · simp [h9]
                  · rw [if_neg h8, if_neg h9, if_neg (by omega)]
theorem need_range (op : Int) : 0 ≤ (need op).1 ∧ (need op).1 ≤ 2 ∧ 0 ≤ (need op).2.2 ∧ (need op).2.2 ≤ 2 ∧ 0 ≤ (need op).2.1 ∧ (need op).2.1 ≤ 2 := by
  unfold need; (repeat' split) <;> decide
theorem need_is (op : Int) : ∃ m p r, need op = (m, p, r) ∧ 0 ≤ m ∧ m ≤ 2 ∧ 0 ≤ r ∧ r ≤ 2 ∧ 0 ≤ p ∧ p ≤ 2 :=
  ⟨(need op).1, (need op).2.1, (need op).2.2, rfl, need_range op⟩
attribute [irreducible] need needI
/-- Does a node's number fit its operator? -/
def leafB (w v : Int) (x : Nd) : Bool :=
  if x.f0 = 1 then decide (word w x.f1) else if x.f0 = 2 then decide (x.f1 < v) else if x.f0 = 20 then decide (x.f1 ≤ 1) else decide (x.f1 = 0)
theorem leaf_spec (k : Nat) (w v a b : Int) (hk : 65 < k) (hv0 : 0 ≤ v) (hv : v ≤ 4) (h0 : 0 ≤ b) (h1 : b < 18446744073709551616) : spec_l2N.f k w v a b = some (leafB w v ⟨a, b⟩) := by
  unfold spec_l2N.f leafB
  by_cases h2 : a = 1
  · rw [if_pos h2, if_pos h2, goodWord_spec k w b hk h0 h1]; rfl
  · rw [if_neg h2, if_neg h2, u64_id v hv0 (by omega)]
    by_cases h3 : a = 2
    · rw [if_pos h3, if_pos h3]
    · rw [if_neg h3, if_neg h3]
      by_cases h4 : a = 20
      · rw [if_pos h4, if_pos h4]; congr 1; rw [Bool.eq_iff_iff]; simp only [decide_eq_true_eq]; omega
      · rw [if_neg h4, if_neg h4]; first | done | rfl | (congr 1; first | done | rfl | (rw [Bool.eq_iff_iff]; simp))
theorem leaf_impl (w v a b : Int) (hv0 : 0 ≤ v) (hv : v ≤ 4) (h0 : 0 ≤ b) : impl_isLeafRight.f w v a b = some (leafB w v ⟨a, b⟩) := by
  unfold impl_isLeafRight.f leafB
  by_cases h2 : a = 1
  · rw [if_pos h2, if_pos h2, goodWord_impl w b h0]; rfl
  · rw [if_neg h2, if_neg h2, u64_id v hv0 (by omega)]
    by_cases h3 : a = 2
    · rw [if_pos h3, if_pos h3]
    · rw [if_neg h3, if_neg h3]
      by_cases h4 : a = 20
      · rw [if_pos h4, if_pos h4]
      · rw [if_neg h4, if_neg h4]; first | done | rfl | (congr 1; first | done | rfl | (rw [Bool.eq_iff_iff]; simp))
/-- One node over the stack of kinds; the top is the list's head. -/
def stepK (w v : Int) (st : List Int) (x : Nd) : Option (List Int) :=
  if (need x.f0).2.2 = 0 then none else if leafB w v x = true then
    if (st.length : Int) < (need x.f0).1 then none else if (st.take (need x.f0).1.toNat).all (fun y => y == (need x.f0).2.1) = true then some ((need x.f0).2.2 :: st.drop (need x.f0).1.toNat) else none
  else none
def runK (w v : Int) : List Nd → List Int → Option (List Int)
  | [], st => some st
  | x :: t, st => (stepK w v st x).bind (runK w v t)
theorem runK_len (w v : Int) (t : List Nd) : ∀ st st', runK w v t st = some st' → st'.length ≤ st.length + t.length := by
  induction t with
  | nil => intro st st' h; simp only [runK, Option.some.injEq] at h; subst h; simp
  | cons x t ih =>
    intro st st' h
    simp only [runK, Option.bind_eq_some_iff] at h
    obtain ⟨s1, h1, h2⟩ := h
    have h3 := ih _ _ h2
    unfold stepK at h1
    split at h1
    · cases h1
    · split at h1
      · split at h1
        · cases h1
        · split at h1
          · obtain rfl := Option.some.inj h1
            simp only [List.length_cons, List.length_drop] at h3 ⊢
            omega
          · cases h1
      · cases h1
theorem rd_last (st : List Int) (a : Int) : rd ((a :: st).reverse) (((a :: st).reverse.length : Int) - 1) = a := by
  have : (((a :: st).reverse.length : Int) - 1).toNat = st.length := by simp
  unfold rd
  rw [this]
  simp [List.getD]
theorem take_last (st : List Int) (a : Int) (n : Nat) (h : n = st.length) : (a :: st).reverse.take n = st.reverse := by
  subst h
  rw [List.reverse_cons, List.take_left' (by simp)]
/-- The reference pops one part after another. -/
theorem spec_pop (w v part own : Int) (t : List Nd) (n i : Int) (m : Nat) : ∀ (st : List Int) (k : Nat), m ≤ st.length → st.length ≤ 48 → (m : Int) ≤ 2 → m + 1 < k →
    ∃ k', k ≤ k' + m + 1 ∧ spec_l2Kind.l1 k w v st.reverse m part own t n i =
      if (st.take m).all (fun y => y == part) = true then spec_l2Kind.l0 k' w v ((st.drop m).reverse ++ [own]) t n (wrap64 (i + 1)) else some 0 := by
  induction m with
  | zero =>
    intro st k hm hl h2 hk
    obtain ⟨k, rfl⟩ : ∃ m, k = m + 1 := ⟨k - 1, by omega⟩
    refine ⟨k, by omega, ?_⟩
    simp only [spec_l2Kind.l1]
    rewrite [if_neg (by omega), if_pos (by simp; omega)]
    simp
  | succ m ih =>
    intro st k hm hl h2 hk
    obtain ⟨k, rfl⟩ : ∃ m, k = m + 1 := ⟨k - 1, by omega⟩
    obtain ⟨a, st, rfl⟩ : ∃ a s, st = a :: s := by cases st with | nil => simp at hm | cons a s => exact ⟨a, s, rfl⟩
    have hlen : ((a :: st).reverse.length : Int) = (st.length : Int) + 1 := by simp
    simp only [List.length_cons] at hm hl
    have e1 : wrap64 (((a :: st).reverse.length : Int) - 1) = ((a :: st).reverse.length : Int) - 1 := wrap64_id _ (by omega) (by omega)
    have e2 : wrap64 (((m + 1 : Nat) : Int) - 1) = (m : Int) := by rw [wrap64_id _ (by omega) (by omega)]; omega
    have e3 : (a :: st).reverse.take (((a :: st).reverse.length : Int) - 1).toNat = st.reverse := take_last st a _ (by omega)
    obtain ⟨k', hk', he⟩ := ih st k (by omega) (by omega) (by omega) (by omega)
    refine ⟨k', by omega, ?_⟩
    simp only [spec_l2Kind.l1]
    rewrite [e1, rd_last, if_pos (by omega), if_pos (by omega), if_pos (by omega), e2]
    by_cases h : a = part
    · rewrite [if_pos h, if_pos (by omega), e3, he]
      simp [h]
    · rewrite [if_neg h, if_neg (by simp [h])]
      rfl
def okNodes (t : List Nd) : Prop := ∀ x ∈ t, 0 ≤ x.f1 ∧ x.f1 < 18446744073709551616
theorem rd_at {t : List Nd} {i : Nat} (h : i < t.length) : rd_T34 t (i : Int) = t[i] := by
  unfold rd_T34
  rw [Int.toNat_natCast, List.getD_eq_getElem?_getD, List.getElem?_eq_getElem h]; rfl
def top (r : Option (List Int)) : Int := match r with
  | some [x] => x
  | _ => 0
theorem spec_l2Kind_loop (w v : Int) (t : List Nd) (hok : okNodes t) (hv0 : 0 ≤ v) (hv : v ≤ 4) (ht : t.length ≤ 48) (d : Nat) : ∀ (i : Nat) (st : List Int) (k : Nat), i + d = t.length → st.length ≤ i → 5 * d + 70 < k →
    spec_l2Kind.l0 k w v st.reverse t (t.length : Int) (i : Int) = some (top (runK w v (t.drop i) st)) := by
  induction d with
  | zero =>
    intro i st k hi hs hk
    obtain ⟨k, rfl⟩ : ∃ m, k = m + 1 := ⟨k - 1, by omega⟩
    simp only [spec_l2Kind.l0]
    rewrite [if_neg (by omega), List.drop_eq_nil_of_le (by omega)]
    simp only [runK, List.length_reverse]
    match st with
    | [] => simp [top]
    | [a] => simp [top, rd]
    | a :: b :: s => rewrite [if_neg (by simp only [List.length_cons]; omega)]; rfl
  | succ d ih =>
    intro i st k hi hs hk
    obtain ⟨k, rfl⟩ : ∃ m, k = m + 2 := ⟨k - 2, by omega⟩
    have hit : i < t.length := by omega
    have q0 : (0 : Int) ≤ (i : Int) := by omega
    have q1 : (i : Int) < (t.length : Int) := by omega
    have q2 : 3 < k + 1 := by omega
    have q3 : 65 < k + 1 := by omega
    have q4 : i + 1 + d = t.length := by omega
    have q5 : st.length ≤ 48 := by omega
    have e1 : wrap64 ((i : Int) + 1) = ((i + 1 : Nat) : Int) := by rw [wrap64_id _ (by omega) (by omega)]; omega
    have hx := hok t[i] (List.getElem_mem hit)
    obtain ⟨mm, pp, rr, hn, b0, b1, b2, b3, b4, b5⟩ := need_is t[i].f0
    have hdrop : t.drop i = t[i] :: t.drop (i + 1) := List.drop_eq_getElem_cons hit
    simp only [spec_l2Kind.l0]
    rewrite [if_pos q1, if_pos q0, if_pos q1, rd_at hit, need_spec _ _ q2, hn]
    simp only [Option.bind_some]
    rewrite [hdrop]
    simp only [runK]
    unfold stepK
    simp only [hn]
    clear hdrop
    by_cases h0 : rr = 0
    · rewrite [if_pos h0, if_pos h0]
      simp only [spec_l2Kind.j2, if_true]
      rfl
    · rewrite [if_neg h0, if_neg h0, leaf_spec _ w v _ _ q3 hv0 hv hx.1 hx.2]
      clear hx
      simp only [Option.bind_some]
      by_cases h1 : leafB w v t[i] = true
      · rewrite [if_pos h1, if_pos h1]
        simp only [spec_l2Kind.j2, List.length_reverse]
        by_cases h2 : (st.length : Int) < mm
        · rewrite [if_pos (by simpa using h2), if_pos h2]
          rfl
        · rewrite [if_neg (by simpa using h2), if_neg h2]
          obtain ⟨m, hm⟩ := Int.eq_ofNat_of_zero_le b0
          rw [hm]
          have hm2 : (m : Int) ≤ 2 := by omega
          obtain ⟨k', hk', he⟩ := spec_pop w v pp rr t (t.length : Int) (i : Int) m st k (by omega) q5 hm2 (by omega)
          rewrite [he, Int.toNat_natCast, e1]
          by_cases h3 : (st.take m).all (fun y => y == pp) = true
          · rewrite [if_pos h3, if_pos h3]
            have := ih (i + 1) (rr :: st.drop m) k' q4 (by simp only [List.length_cons, List.length_drop]; omega) (by omega)
            rw [List.reverse_cons] at this
            rw [this]
            rfl
          · rewrite [if_neg h3, if_neg h3]
            rfl
      · rewrite [if_neg h1, if_neg h1]
        simp only [spec_l2Kind.j2, if_true]
        rfl
/-- The kind of a good term, else 0. -/
def kindT (w v : Int) (t : List Nd) : Int :=
  if 1 ≤ w ∧ w ≤ 64 ∧ 1 ≤ v ∧ v ≤ 4 ∧ 1 ≤ t.length ∧ t.length ≤ 48 then top (runK w v t []) else 0
theorem l2Kind_val (k : Nat) (w v : Int) (t : List Nd) (hok : okNodes t) (hk : 400 < k) : spec_l2Kind.f k w v t = some (kindT w v t) := by
  obtain ⟨k, rfl⟩ : ∃ m, k = m + 1 := ⟨k - 1, by omega⟩
  unfold spec_l2Kind.f kindT
  rw [l1Wide_val, l1In_val, l1In_val]
  simp only [Option.bind_some, decide_eq_true_eq, spec_l2Kind.j0]
  by_cases h1 : 1 ≤ w ∧ w ≤ 64
  · rewrite [if_pos h1]
    by_cases h2 : 1 ≤ v ∧ v ≤ 4
    · rewrite [if_pos h2]
      by_cases h3 : 1 ≤ (t.length : Int) ∧ (t.length : Int) ≤ 48
      · rewrite [if_neg (by simp [h3]), if_pos (by omega)]
        have := spec_l2Kind_loop w v t hok (by omega) h2.2 (by omega) t.length 0 [] k (by omega) (by simp) (by omega)
        simpa using this
      · rewrite [if_pos (by rw [decide_eq_false h3]; rfl), if_neg (by omega)]
        rfl
    · rewrite [if_neg h2, if_pos trivial, if_neg (by omega)]
      rfl
  · rewrite [if_neg h1, if_pos trivial, if_neg (by omega)]
    rfl
theorem goodTerm_spec (k : Nat) (w v : Int) (t : List Nd) (hok : okNodes t) (hk : 400 < k) : spec_GoodTerm.f k w v t = some (decide (kindT w v t > 0)) := by
  unfold spec_GoodTerm.f
  rw [l2Kind_val k w v t hok hk]
  rfl
theorem drop_rev (st : List Int) (m : Nat) (h : m ≤ st.length) : st.reverse.drop (st.length - m) = (st.take m).reverse := by
  rw [List.drop_reverse]; congr 2; omega
theorem take_rev (st : List Int) (m : Nat) (h : m ≤ st.length) : st.reverse.take (st.length - m) = (st.drop m).reverse := by
  rw [List.take_reverse]; congr 2; omega
theorem any_ne_all (l : List Int) (p : Int) : (l.reverse.any fun x => x != p) = !(l.all fun y => y == p) := by
  rw [List.any_reverse, List.not_all_eq_any_not]
  rfl
/-- The program's verdict: one value remains. -/
def oneLeft (r : Option (List Int)) : Bool := match r with
  | some [_] => true
  | _ => false
theorem impl_GoodTerm_loop (w v : Int) (t : List Nd) (hok : okNodes t) (hv0 : 0 ≤ v) (hv : v ≤ 4) (ht : t.length ≤ 48) (d : Nat) : ∀ (i : Nat) (st : List Int) (k : Nat), i + d = t.length → st.length ≤ i → d + 10 < k →
    impl_GoodTerm.l0 k w v st.reverse t (t.length : Int) (i : Int) = some (oneLeft (runK w v (t.drop i) st)) := by
  induction d with
  | zero =>
    intro i st k hi hs hk
    obtain ⟨k, rfl⟩ : ∃ m, k = m + 1 := ⟨k - 1, by omega⟩
    simp only [impl_GoodTerm.l0]
    rw [if_neg (by omega), List.drop_eq_nil_of_le (by omega)]
    simp only [runK, List.length_reverse]
    match st with
    | [] => rfl
    | [a] => rfl
    | a :: b :: s => simp only [List.length_cons, oneLeft, Option.some.injEq]; rw [beq_eq_false_iff_ne]; omega
  | succ d ih =>
    intro i st k hi hs hk
    obtain ⟨k, rfl⟩ : ∃ m, k = m + 1 := ⟨k - 1, by omega⟩
    have hit : i < t.length := by omega
    have q0 : (0 : Int) ≤ (i : Int) := by omega
    have q1 : (i : Int) < (t.length : Int) := by omega
    have q2 : 3 < k := by omega
    have q4 : i + 1 + d = t.length := by omega
    have q5 : st.length ≤ 48 := by omega
    have e1 : wrap64 ((i : Int) + 1) = ((i + 1 : Nat) : Int) := by rw [wrap64_id _ (by omega) (by omega)]; omega
    have hx := hok t[i] (List.getElem_mem hit)
    obtain ⟨mm, pp, rr, hn, b0, b1, b2, b3, b4, b5⟩ := need_is t[i].f0
    obtain ⟨n1, n2, n3⟩ := needI_eq t[i].f0
    rw [hn] at n1 n2 n3
    simp only at n1 n2 n3
    have hdrop : t.drop i = t[i] :: t.drop (i + 1) := List.drop_eq_getElem_cons hit
    simp only [impl_GoodTerm.l0]
    rewrite [if_pos q1, if_pos q0, if_pos q1, rd_at hit, need_impl _ _ q2]
    simp only [Option.bind_some]
    rewrite [n1, n2, hdrop]
    simp only [runK]
    unfold stepK
    simp only [hn]
    clear hdrop n1 n2 hn
    by_cases h0 : rr = 0
    · rewrite [if_pos h0, if_pos h0]
      rfl
    · rewrite [if_neg h0, if_neg h0, leaf_impl w v _ _ hv0 hv hx.1]
      clear hx
      simp only [Option.bind_some]
      by_cases h1 : leafB w v t[i] = true
      · rewrite [if_pos h1, if_pos h1]
        clear h1
        have hl : (st.reverse.length : Int) = (st.length : Int) := by simp
        obtain ⟨m, hm⟩ := Int.eq_ofNat_of_zero_le b0
        subst hm
        have e2 : wrap64 ((st.reverse.length : Int) - (m : Int)) = (st.length : Int) - (m : Int) := by rw [wrap64_id _ (by omega) (by omega), hl]
        rewrite [e2]
        by_cases h2 : (st.length : Int) < (m : Int)
        · rewrite [if_pos (by omega), if_pos h2]
          rfl
        · have hms : m ≤ st.length := by omega
          have e3 : ((st.length : Int) - (m : Int)).toNat = st.length - m := by omega
          rewrite [if_neg (by omega), if_pos (by omega), if_pos (by omega), if_neg h2, e3, drop_rev st m hms, take_rev st m hms]
          unfold impl_GoodTerm_any.f
          simp only [Option.bind_some]
          rewrite [any_ne_all, Int.toNat_natCast]
          have hpart : ((st.take m).all fun y => y == (needI t[i].f0).2.1) = ((st.take m).all fun y => y == pp) := by
            by_cases hz : (m : Int) = 0
            · obtain rfl : m = 0 := by omega
              rfl
            · rw [n3 hz]
          rewrite [hpart]
          clear hpart n3
          by_cases h3 : (st.take m).all (fun y => y == pp) = true
          · rewrite [if_neg (by rw [h3]; decide), if_pos h3, if_pos (by simp; omega), e1]
            have := ih (i + 1) (rr :: st.drop m) k q4 (by simp only [List.length_cons, List.length_drop]; omega) (by omega)
            rw [List.reverse_cons] at this
            exact this
          · rewrite [if_pos (by simpa using h3), if_neg h3]
            rfl
      · rewrite [if_neg h1, if_neg h1]
        rfl
theorem step_pos (w v : Int) (st : List Int) (x : Nd) (st' : List Int) (h : stepK w v st x = some st') (hs : ∀ y ∈ st, y = 1 ∨ y = 2) : ∀ y ∈ st', y = 1 ∨ y = 2 := by
  obtain ⟨mm, pp, rr, hn, b0, b1, b2, b3, b4, b5⟩ := need_is x.f0
  unfold stepK at h
  rw [hn] at h
  simp only at h
  split at h
  · cases h
  · split at h
    · split at h
      · cases h
      · split at h
        · obtain rfl := Option.some.inj h
          intro y hy
          rcases List.mem_cons.1 hy with rfl | hy
          · omega
          · exact hs y (List.mem_of_mem_drop hy)
        · cases h
    · cases h
theorem run_pos (w v : Int) (t : List Nd) : ∀ st st', runK w v t st = some st' → (∀ y ∈ st, y = 1 ∨ y = 2) → ∀ y ∈ st', y = 1 ∨ y = 2 := by
  induction t with
  | nil => intro st st' h hs; simp only [runK, Option.some.injEq] at h; subst h; exact hs
  | cons x t ih =>
    intro st st' h hs
    simp only [runK, Option.bind_eq_some_iff] at h
    obtain ⟨s1, h1, h2⟩ := h
    exact ih _ _ h2 (step_pos w v st x s1 h1 hs)
theorem oneLeft_top (w v : Int) (t : List Nd) : oneLeft (runK w v t []) = decide (top (runK w v t []) > 0) := by
  cases h : runK w v t [] with
  | none => rfl
  | some st =>
    have hp := run_pos w v t [] st h (fun y hy => absurd hy (by simp))
    match st with
    | [] => rfl
    | [a] => have := hp a (by simp); show true = decide (a > 0); symm; exact decide_eq_true (by omega)
    | a :: b :: s => rfl
theorem goodTerm_impl (k : Nat) (w v : Int) (t : List Nd) (hok : okNodes t) (hk : 400 < k) : impl_GoodTerm.f k w v t = some (decide (kindT w v t > 0)) := by
  obtain ⟨k, rfl⟩ : ∃ m, k = m + 1 := ⟨k - 1, by omega⟩
  unfold impl_GoodTerm.f kindT
  rw [isWide_val, isVars_val]
  simp only [Option.bind_some, decide_eq_true_eq, impl_GoodTerm.j0]
  by_cases h1 : 1 ≤ w ∧ w ≤ 64
  · rewrite [if_pos h1]
    by_cases h2 : 1 ≤ v ∧ v ≤ 4
    · rewrite [if_pos h2]
      by_cases h3 : (t.length : Int) < 1
      · rewrite [if_pos h3, if_pos trivial, if_neg (by omega)]
        rfl
      · rewrite [if_neg h3]
        by_cases h4 : (t.length : Int) > 48
        · rewrite [if_pos h4, if_neg (by omega)]
          rfl
        · rewrite [if_neg h4, if_pos (by omega)]
          have := impl_GoodTerm_loop w v t hok (by omega) h2.2 (by omega) t.length 0 [] k (by omega) (by simp) (by omega)
          rw [List.drop_zero] at this
          rw [← oneLeft_top]
          exact this
    · rewrite [if_neg h2, if_pos trivial, if_neg (by omega)]
      rfl
  · rewrite [if_neg h1, if_pos trivial, if_neg (by omega)]
    rfl
end Go.Proofs.YtckdgmbmjfhodaaDoor.Pure

namespace Go.Proofs.YtckdgmbmjfhodaaDoor.Pure
open Go.RowKit Go.Proofs.YtckdgmbmjfhodaaDoor.X Go.Proofs.YtckdgmbmjfhodaaDoorW.PrintWords Go.Proofs.YtckdgmbmjfhodaaDoorW.PrintLast Go.Proofs.YtckdgmbmjfhodaaDoor.Bits

abbrev Nl := S36
def conv (x : Nl) : Nd := ⟨x.f0, x.f1⟩
theorem rdl_at {t : List Nl} {i : Nat} (h : i < t.length) : rd_T36 t (i : Int) = t[i] := by
  unfold rd_T36
  rw [Int.toNat_natCast, List.getD_eq_getElem?_getD, List.getElem?_eq_getElem h]; rfl
theorem sz_val (l : List Nl) (hl : l.length ≤ 9223372036854775807) : laws_szNodeS.f l 1048576 = some (if 1048576 < l.length then -1 else 1048576 - (l.length : Int)) := by
  unfold laws_szNodeS.f
  rw [wrap64_id _ (by omega) (by omega)]
  by_cases h : 1048576 < l.length
  · rw [if_pos (by omega), if_pos h]
  · rw [if_neg (by omega), if_neg h]
theorem set_mid {α : Type} (a b : List α) (x y : α) (n : Nat) (h : n = a.length) : (a ++ x :: b).set n y = a ++ y :: b := by
  subst h; simp
theorem toNodes_loop (l : List Nl) (hl : l.length ≤ 1048576) (d : Nat) : ∀ (i : Nat) (k : Nat), i + d = l.length → d < k →
    laws_toNodeS.l0 k l ((l.take i).map conv ++ List.replicate d z34) (i : Int) = some (l.map conv) := by
  induction d with
  | zero =>
    intro i k hi hk
    obtain ⟨k, rfl⟩ : ∃ m, k = m + 1 := ⟨k - 1, by omega⟩
    simp only [laws_toNodeS.l0]
    rw [if_neg (by omega), List.take_of_length_le (by omega)]
    simp
  | succ d ih =>
    intro i k hi hk
    obtain ⟨k, rfl⟩ : ∃ m, k = m + 1 := ⟨k - 1, by omega⟩
    have hit : i < l.length := by omega
    have e1 : wrap64 ((i : Int) + 1) = ((i + 1 : Nat) : Int) := by rw [wrap64_id _ (by omega) (by omega)]; omega
    simp only [laws_toNodeS.l0]
    rewrite [if_pos (by omega), if_pos (by omega)]
    unfold laws_toNode.f
    simp only [Option.bind_some]
    rewrite [if_pos (by simp; omega), rdl_at hit, e1, Int.toNat_natCast, List.replicate_succ, set_mid _ _ _ _ _ (by simp; omega)]
    have h2 : (l.take i).map conv ++ (⟨l[i].f0, l[i].f1⟩ : Nd) :: List.replicate d z34 = (l.take (i + 1)).map conv ++ List.replicate d z34 := by
      rw [List.take_add_one, List.getElem?_eq_getElem hit, Option.toList_some, List.map_append, List.append_assoc]
      rfl
    rewrite [h2]
    exact ih (i + 1) k (by omega) (by omega)
theorem toNodes_val (k : Nat) (l : List Nl) (hl : l.length ≤ 1048576) (hk : l.length < k) : laws_toNodeS.f k l = some (l.map conv) := by
  unfold laws_toNodeS.f
  rw [if_pos (by omega), Int.toNat_natCast, if_pos (by omega)]
  have := toNodes_loop l hl l.length 0 k (by omega) hk
  simpa using this
theorem eqNodes_loop (l : List Nd) (hl : l.length ≤ 1048576) (d : Nat) : ∀ (i : Nat) (k : Nat), i + d = l.length → d < k → laws_eqNodeS.l0 k l l (i : Int) = some true := by
  induction d with
  | zero =>
    intro i k hi hk
    obtain ⟨k, rfl⟩ : ∃ m, k = m + 1 := ⟨k - 1, by omega⟩
    simp only [laws_eqNodeS.l0]
    rw [if_neg (by omega)]
  | succ d ih =>
    intro i k hi hk
    obtain ⟨k, rfl⟩ : ∃ m, k = m + 1 := ⟨k - 1, by omega⟩
    have e1 : wrap64 ((i : Int) + 1) = ((i + 1 : Nat) : Int) := by rw [wrap64_id _ (by omega) (by omega)]; omega
    simp only [laws_eqNodeS.l0]
    rewrite [if_pos (by omega), if_pos (by omega), if_pos (by omega)]
    unfold laws_eqNode.f
    rewrite [if_pos rfl, if_pos rfl]
    simp only [Option.bind_some, if_true]
    rewrite [e1]
    exact ih (i + 1) k (by omega) (by omega)
theorem eqNodes_val (k : Nat) (l : List Nd) (hl : l.length ≤ 1048576) (hk : l.length < k) : laws_eqNodeS.f k l l = some true := by
  unfold laws_eqNodeS.f
  rw [if_pos rfl]
  exact eqNodes_loop l hl l.length 0 k (by omega) hk
theorem conv_ok (l : List Nl) (h : ∀ y ∈ l, wf36 y) : okNodes (l.map conv) := by
  intro x hx
  obtain ⟨y, hy, rfl⟩ := List.mem_map.1 hx
  exact wf_u64 (h y hy).2
/-- How many rounds serve every loop over such a list. -/
def rounds (l : List Nl) : Nat := 6 * l.length + 2000
theorem runK_append (w v : Int) (t u : List Nd) : ∀ st, runK w v (t ++ u) st = (runK w v t st).bind (runK w v u) := by
  induction t with
  | nil => intro st; rfl
  | cons x t ih =>
    intro st
    simp only [List.cons_append, runK, Option.bind_assoc]
    congr 1
    funext s
    exact ih s
theorem step_head (w v : Int) (st st' : List Int) (x : Nd) (h : stepK w v st x = some st') : ∃ s, st' = (need x.f0).2.2 :: s := by
  unfold stepK at h
  split at h
  · cases h
  · split at h
    · split at h
      · cases h
      · split at h
        · exact ⟨_, (Option.some.inj h).symm⟩
        · cases h
    · cases h
theorem kindT_last (w v : Int) (t : List Nd) (h : kindT w v t > 0) : ∃ u x, t = u ++ [x] ∧ kindT w v t = (need x.f0).2.2 := by
  unfold kindT at h ⊢
  split at h
  · rename_i hc
    rw [if_pos hc]
    obtain ⟨u, x, rfl⟩ : ∃ u x, t = u ++ [x] := by
      rcases List.eq_nil_or_concat t with h0 | ⟨u, x, h0⟩
      · subst h0; simp at hc
      · exact ⟨u, x, by simpa using h0⟩
    refine ⟨u, x, rfl, ?_⟩
    rw [runK_append] at h ⊢
    cases h1 : runK w v u [] with
    | none => rw [h1] at h; simp [top] at h
    | some s =>
      rw [h1] at h
      simp only [Option.bind_some, runK] at h ⊢
      cases h2 : stepK w v s x with
      | none => rw [h2] at h; simp [top] at h
      | some s2 =>
        obtain ⟨s3, rfl⟩ := step_head w v s s2 x h2
        rw [h2] at h
        simp only [Option.bind_some] at h ⊢
        match s3 with
        | [] => rfl
        | b :: r => simp [top] at h
  · exact absurd h (by decide)
theorem rdNode_at {t : List Nd} {i : Nat} (h : i < t.length) : rd_T34 t (i : Int) = t[i] := rd_at h
end Go.Proofs.YtckdgmbmjfhodaaDoor.Pure

namespace Go.Proofs.YtckdgmbmjfhodaaDoor.Pure
open Go.RowKit Go.Proofs.YtckdgmbmjfhodaaDoor.X Go.Proofs.YtckdgmbmjfhodaaDoorW.PrintWords Go.Proofs.YtckdgmbmjfhodaaDoorW.PrintLast Go.Proofs.YtckdgmbmjfhodaaDoor.Bits

inductive Tr where
  | leaf (x : Nd) : Tr
  | one (x : Nd) (a : Tr) : Tr
  | two (x : Nd) (a b : Tr) : Tr
def Tr.flat : Tr → List Nd
  | .leaf x => [x]
  | .one x a => a.flat ++ [x]
  | .two x a b => a.flat ++ (b.flat ++ [x])
def Tr.root : Tr → Nd
  | .leaf x => x
  | .one x _ => x
  | .two x _ _ => x
/-- A tree whose nodes fit, of a kind. -/
def Tr.good (w v : Int) : Tr → Int → Prop
  | .leaf x, k => (need x.f0).1 = 0 ∧ (need x.f0).2.2 = k ∧ k ≠ 0 ∧ leafB w v x = true
  | .one x a, k => (need x.f0).1 = 1 ∧ (need x.f0).2.2 = k ∧ k ≠ 0 ∧ leafB w v x = true ∧ a.good w v (need x.f0).2.1
  | .two x a b, k => (need x.f0).1 = 2 ∧ (need x.f0).2.2 = k ∧ k ≠ 0 ∧ leafB w v x = true ∧ a.good w v (need x.f0).2.1 ∧ b.good w v (need x.f0).2.1
def flats : List Tr → List Nd
  | [] => []
  | f :: r => flats r ++ f.flat
def goods (w v : Int) : List Tr → List Int → Prop
  | [], [] => True
  | f :: r, k :: s => f.good w v k ∧ goods w v r s
  | _, _ => False
theorem goods_step (w v : Int) (x : Nd) (fs : List Tr) (st st' : List Int) (hg : goods w v fs st) (h : stepK w v st x = some st') :
    ∃ fs', goods w v fs' st' ∧ flats fs' = flats fs ++ [x] := by
  obtain ⟨m, p, r, hn, b0, b1, b2, b3, b4, b5⟩ := need_is x.f0
  unfold stepK at h
  rw [hn] at h
  simp only at h
  split at h
  · cases h
  · rename_i hr
    split at h
    · rename_i hl
      split at h
      · cases h
      · rename_i hlen
        split at h
        · rename_i hall
          obtain rfl := Option.some.inj h
          have hm : m = 0 ∨ m = 1 ∨ m = 2 := by omega
          rcases hm with rfl | rfl | rfl
          · exact ⟨.leaf x :: fs, ⟨⟨by rw [hn], by rw [hn], hr, hl⟩, hg⟩, rfl⟩
          · match fs, st, hg with
            | [], [], _ => exact absurd hlen (by simp)
            | a :: fs, s :: st, hg =>
              have hs : s = p := by simpa using hall
              subst hs
              exact ⟨.one x a :: fs, ⟨⟨by rw [hn], by rw [hn], hr, hl, by rw [hn]; exact hg.1⟩, hg.2⟩, by simp [flats, Tr.flat]⟩
          · match fs, st, hg with
            | [], [], _ => exact absurd hlen (by simp)
            | [_], [_], _ => exact absurd hlen (by simp)
            | b :: a :: fs, s :: s2 :: st, hg =>
              have hs : s = p ∧ s2 = p := by simpa using hall
              obtain ⟨rfl, rfl⟩ := hs
              exact ⟨.two x a b :: fs, ⟨⟨by rw [hn], by rw [hn], hr, hl, by rw [hn]; exact hg.2.1, by rw [hn]; exact hg.1⟩, hg.2.2⟩, by simp [flats, Tr.flat]⟩
        · cases h
    · cases h
theorem goods_run (w v : Int) (t : List Nd) : ∀ (fs : List Tr) (st st' : List Int), goods w v fs st → runK w v t st = some st' → ∃ fs', goods w v fs' st' ∧ flats fs' = flats fs ++ t := by
  induction t with
  | nil =>
    intro fs st st' hg h
    simp only [runK, Option.some.injEq] at h
    subst h
    exact ⟨fs, hg, by simp⟩
  | cons x t ih =>
    intro fs st st' hg h
    simp only [runK, Option.bind_eq_some_iff] at h
    obtain ⟨s1, h1, h2⟩ := h
    obtain ⟨f1, hg1, hf1⟩ := goods_step w v x fs st s1 hg h1
    obtain ⟨f2, hg2, hf2⟩ := ih f1 s1 st' hg1 h2
    exact ⟨f2, hg2, by rw [hf2, hf1]; simp⟩
/-- A good term is a tree's nodes. -/
theorem kind_tree (w v : Int) (t : List Nd) (h : kindT w v t > 0) : ∃ tr : Tr, tr.good w v (kindT w v t) ∧ tr.flat = t := by
  unfold kindT at h ⊢
  split at h
  · rename_i hc
    rw [if_pos hc]
    cases hr : runK w v t [] with
    | none => rw [hr] at h; exact absurd h (by decide)
    | some st =>
      rw [hr] at h
      obtain ⟨fs, hg, hf⟩ := goods_run w v t [] [] st trivial hr
      match st, fs, hg, h with
      | [k], [f], hg, _ => exact ⟨f, hg.1, by simpa [flats] using hf⟩
      | [], _, _, h => exact absurd h (by simp [top])
      | a :: b :: s, _, _, h => exact absurd h (by simp [top])
  · exact absurd h (by decide)
theorem flat_pos (tr : Tr) : 0 < tr.flat.length := by cases tr <;> simp [Tr.flat] <;> omega
/-- A run over a stack. -/
def runS {β : Type} (step : Nd → List β → Option (List β)) : List Nd → List β → Option (List β)
  | [], st => some st
  | x :: t, st => (step x st).bind (runS step t)
theorem runS_append {β : Type} (step : Nd → List β → Option (List β)) (t u : List Nd) : ∀ st, runS step (t ++ u) st = (runS step t st).bind (runS step u) := by
  induction t with
  | nil => intro st; rfl
  | cons x t ih =>
    intro st
    simp only [List.cons_append, runS, Option.bind_assoc]
    congr 1
    funext s
    exact ih s
theorem runS_tree {β : Type} (w v : Int) (step : Nd → List β → Option (List β)) (ev : Tr → β)
    (h0 : ∀ x st k, (Tr.leaf x).good w v k → step x st = some (ev (.leaf x) :: st))
    (h1 : ∀ x a st k, (Tr.one x a).good w v k → step x (ev a :: st) = some (ev (.one x a) :: st))
    (h2 : ∀ x a b st k, (Tr.two x a b).good w v k → step x (ev b :: ev a :: st) = some (ev (.two x a b) :: st))
    (tr : Tr) : ∀ st k, tr.good w v k → runS step tr.flat st = some (ev tr :: st) := by
  induction tr with
  | leaf x =>
    intro st k h
    simp only [Tr.flat, runS, h0 x st k h, Option.bind_some]
  | one x a iha =>
    intro st k h
    rw [Tr.flat, runS_append, iha st _ h.2.2.2.2]
    simp only [Option.bind_some, runS, h1 x a st k h]
  | two x a b iha ihb =>
    intro st k h
    rw [Tr.flat, runS_append, iha st _ h.2.2.2.2.1]
    simp only [Option.bind_some]
    rw [runS_append, ihb _ _ h.2.2.2.2.2]
    simp only [Option.bind_some, runS, h2 x a b st k h]
/-- A tree whose nodes stand in a list from a place on. -/
def stands (t : List Nd) (lo : Nat) (tr : Tr) : Prop := ∃ pre post, t = pre ++ (tr.flat ++ post) ∧ pre.length = lo
theorem stands_all (tr : Tr) : stands tr.flat 0 tr := ⟨[], [], by simp, rfl⟩
theorem stands_one {t : List Nd} {lo : Nat} {x : Nd} {a : Tr} (h : stands t lo (.one x a)) : stands t lo a := by
  obtain ⟨pre, post, rfl, hl⟩ := h
  exact ⟨pre, [x] ++ post, by simp [Tr.flat], hl⟩
theorem stands_two {t : List Nd} {lo : Nat} {x : Nd} {a b : Tr} (h : stands t lo (.two x a b)) : stands t lo a ∧ stands t (lo + a.flat.length) b := by
  obtain ⟨pre, post, rfl, hl⟩ := h
  exact ⟨⟨pre, b.flat ++ [x] ++ post, by simp [Tr.flat], hl⟩, ⟨pre ++ a.flat, [x] ++ post, by simp [Tr.flat], by simp [hl]⟩⟩
theorem stands_len {t : List Nd} {lo : Nat} {tr : Tr} (h : stands t lo tr) : lo + tr.flat.length ≤ t.length := by
  obtain ⟨pre, post, rfl, hl⟩ := h
  simp; omega
theorem flat_root (tr : Tr) : ∃ u, tr.flat = u ++ [tr.root] := by
  cases tr with
  | leaf x => exact ⟨[], rfl⟩
  | one x a => exact ⟨a.flat, rfl⟩
  | two x a b => exact ⟨a.flat ++ b.flat, by simp [Tr.flat, Tr.root]⟩
theorem stands_root {t : List Nd} {lo : Nat} {tr : Tr} (h : stands t lo tr) : t[lo + tr.flat.length - 1]? = some tr.root := by
  obtain ⟨pre, post, rfl, hl⟩ := h
  obtain ⟨u, hu⟩ := flat_root tr
  subst hl
  have hul : tr.flat.length = u.length + 1 := by rw [hu]; simp
  rw [hul, hu, show pre.length + (u.length + 1) - 1 = pre.length + u.length by omega, List.getElem?_append_right (by omega), Nat.add_sub_cancel_left, List.append_assoc, List.getElem?_append_right (by omega), Nat.sub_self]
  rfl
theorem stands_rd {t : List Nd} {lo : Nat} {tr : Tr} (h : stands t lo tr) (i : Int) (hi : i = (lo : Int) + tr.flat.length - 1) : rd_T34 t i = tr.root := by
  have hp := flat_pos tr
  have hl := stands_len h
  obtain rfl : i = ((lo + tr.flat.length - 1 : Nat) : Int) := by omega
  have h2 := stands_root h
  rw [List.getElem?_eq_getElem (by omega)] at h2
  rw [rd_at (by omega)]
  exact Option.some.inj h2
theorem good_need {w v k : Int} {tr : Tr} (h : tr.good w v k) : (need tr.root.f0).2.2 = k ∧ k ≠ 0 ∧ leafB w v tr.root = true := by
  cases tr with
  | leaf x => exact ⟨h.2.1, h.2.2.1, h.2.2.2⟩
  | one x a => exact ⟨h.2.1, h.2.2.1, h.2.2.2.1⟩
  | two x a b => exact ⟨h.2.1, h.2.2.1, h.2.2.2.1⟩
end Go.Proofs.YtckdgmbmjfhodaaDoor.Pure

namespace Go.Proofs.YtckdgmbmjfhodaaDoor.Pure
open Go.RowKit Go.Proofs.YtckdgmbmjfhodaaDoor.X Go.Proofs.YtckdgmbmjfhodaaDoorW.PrintWords Go.Proofs.YtckdgmbmjfhodaaDoorW.PrintLast Go.Proofs.YtckdgmbmjfhodaaDoor.Bits

/-- Where the tree that ends at a place begins. -/
theorem from_val (w v : Int) (t : List Nd) (ht : t.length ≤ 48) (tr : Tr) : ∀ (lo k : Nat) (kd i : Int), stands t lo tr → tr.good w v kd → i = (lo : Int) + tr.flat.length - 1 → 3 * tr.flat.length + 5 < k →
    spec_l2From.f k t i = some (lo : Int) := by
  induction tr with
  | leaf x =>
    intro lo k kd i hs hg hi hk
    obtain ⟨k, rfl⟩ : ∃ m, k = m + 2 := ⟨k - 2, by omega⟩
    have hl := stands_len hs
    have hp := flat_pos (.leaf x)
    have hr := stands_rd hs i hi
    simp only [spec_l2From.f]
    rewrite [if_pos (by omega), if_pos (by omega), hr, need_spec _ _ (by omega)]
    simp only [Option.bind_some, Tr.root, hg.1, spec_l2From.l0]
    rewrite [if_neg (by omega)]
    simp only [Tr.flat, List.length_cons, List.length_nil] at hi
    congr 1; omega
  | one x a iha =>
    intro lo k kd i hs hg hi hk
    obtain ⟨k, rfl⟩ : ∃ m, k = m + 3 := ⟨k - 3, by omega⟩
    have hl := stands_len hs
    have hp := flat_pos (.one x a)
    have hr := stands_rd hs i hi
    simp only [Tr.flat, List.length_append, List.length_cons, List.length_nil] at hi hl hk hp
    have hpa := flat_pos a
    have ha := iha lo (k + 1) _ (i - 1) (stands_one hs) hg.2.2.2.2 (by omega) (by omega)
    have e1 : wrap64 (i - 1) = i - 1 := wrap64_id _ (by omega) (by omega)
    simp only [spec_l2From.f]
    rewrite [if_pos (by omega), if_pos (by omega), hr, need_spec _ _ (by omega)]
    simp only [Option.bind_some, Tr.root, hg.1, spec_l2From.l0]
    rewrite [if_pos (by omega), e1, ha]
    simp only [Option.bind_some]
    rewrite [show wrap64 ((1 : Int) - 1) = 0 from wrap64_id _ (by omega) (by omega), if_neg (by omega)]
    rfl
  | two x a b iha ihb =>
    intro lo k kd i hs hg hi hk
    obtain ⟨k, rfl⟩ : ∃ m, k = m + 4 := ⟨k - 4, by omega⟩
    have hl := stands_len hs
    have hp := flat_pos (.two x a b)
    have hr := stands_rd hs i hi
    simp only [Tr.flat, List.length_append, List.length_cons, List.length_nil] at hi hl hk hp
    have hpa := flat_pos a
    have hpb := flat_pos b
    obtain ⟨s1, s2⟩ := stands_two hs
    have hb := ihb (lo + a.flat.length) (k + 2) _ (i - 1) s2 hg.2.2.2.2.2 (by omega) (by omega)
    have ha := iha lo (k + 1) _ (((lo + a.flat.length : Nat) : Int) - 1) s1 hg.2.2.2.2.1 (by omega) (by omega)
    have e1 : wrap64 (i - 1) = i - 1 := wrap64_id _ (by omega) (by omega)
    have e2 : wrap64 (((lo + a.flat.length : Nat) : Int) - 1) = ((lo + a.flat.length : Nat) : Int) - 1 := wrap64_id _ (by omega) (by omega)
    have e3 : wrap64 ((2 : Int) - 1) = 1 := wrap64_id _ (by omega) (by omega)
    have e4 : wrap64 ((1 : Int) - 1) = 0 := wrap64_id _ (by omega) (by omega)
    simp only [spec_l2From.f]
    rewrite [if_pos (by omega), if_pos (by omega), hr, need_spec _ _ (by omega)]
    simp only [Option.bind_some, Tr.root, hg.1, spec_l2From.l0]
    rewrite [if_pos (by omega), e1, hb]
    simp only [Option.bind_some]
    rewrite [e3, if_pos (by omega), e2, ha]
    simp only [Option.bind_some]
    rewrite [e4, if_neg (by omega)]
    rfl
end Go.Proofs.YtckdgmbmjfhodaaDoor.Pure

namespace Go.Proofs.YtckdgmbmjfhodaaDoor.Pure
open Go.RowKit Go.Proofs.YtckdgmbmjfhodaaDoor.X Go.Proofs.YtckdgmbmjfhodaaDoorW.PrintWords Go.Proofs.YtckdgmbmjfhodaaDoorW.PrintLast Go.Proofs.YtckdgmbmjfhodaaDoor.Bits

theorem need0 (op : Int) (h : (need op).1 = 0) (h2 : (need op).2.2 ≠ 0) : op = 1 ∨ op = 2 ∨ op = 20 := by
  unfold need at h h2
  by_cases c1 : op = 1 ∨ op = 2
  · omega
  by_cases c2 : op = 20
  · omega
  rw [if_neg c1, if_neg c2] at h h2
  by_cases c3 : op = 13
  · rw [if_pos c3] at h; exact absurd h (by decide)
  by_cases c4 : op = 19
  · rw [if_neg c3, if_pos c4] at h; exact absurd h (by decide)
  rw [if_neg c3, if_neg c4] at h h2
  by_cases c5 : 3 ≤ op ∧ op ≤ 12
  · rw [if_pos c5] at h; exact absurd h (by decide)
  by_cases c6 : 14 ≤ op ∧ op ≤ 16
  · rw [if_neg c5, if_pos c6] at h; exact absurd h (by decide)
  by_cases c7 : op = 17 ∨ op = 18
  · rw [if_neg c5, if_neg c6, if_pos c7] at h; exact absurd h (by decide)
  rw [if_neg c5, if_neg c6, if_neg c7] at h2
  exact absurd rfl h2
theorem need1 (op : Int) (h : (need op).1 = 1) : op = 13 ∨ op = 19 := by
  unfold need at h
  by_cases c1 : op = 1 ∨ op = 2
  · rw [if_pos c1] at h; exact absurd h (by decide)
  by_cases c2 : op = 20
  · rw [if_neg c1, if_pos c2] at h; exact absurd h (by decide)
  rw [if_neg c1, if_neg c2] at h
  by_cases c3 : op = 13
  · exact .inl c3
  by_cases c4 : op = 19
  · exact .inr c4
  rw [if_neg c3, if_neg c4] at h
  by_cases c5 : 3 ≤ op ∧ op ≤ 12
  · rw [if_pos c5] at h; exact absurd h (by decide)
  by_cases c6 : 14 ≤ op ∧ op ≤ 16
  · rw [if_neg c5, if_pos c6] at h; exact absurd h (by decide)
  by_cases c7 : op = 17 ∨ op = 18
  · rw [if_neg c5, if_neg c6, if_pos c7] at h; exact absurd h (by decide)
  rw [if_neg c5, if_neg c6, if_neg c7] at h
  exact absurd h (by decide)
theorem need2 (op : Int) (h : (need op).1 = 2) : 3 ≤ op ∧ op ≤ 18 ∧ op ≠ 13 ∧ ((need op).2.2 = 2 → 14 ≤ op ∧ (17 ≤ op → (need op).2.1 = 2)) := by
  unfold need at h ⊢
  by_cases c1 : op = 1 ∨ op = 2
  · rw [if_pos c1] at h; exact absurd h (by decide)
  by_cases c2 : op = 20
  · rw [if_neg c1, if_pos c2] at h; exact absurd h (by decide)
  rw [if_neg c1, if_neg c2] at h ⊢
  by_cases c3 : op = 13
  · rw [if_pos c3] at h; exact absurd h (by decide)
  by_cases c4 : op = 19
  · rw [if_neg c3, if_pos c4] at h; exact absurd h (by decide)
  rw [if_neg c3, if_neg c4] at h ⊢
  by_cases c5 : 3 ≤ op ∧ op ≤ 12
  · rw [if_pos c5]; exact ⟨by omega, by omega, by omega, fun h => absurd h (by decide)⟩
  by_cases c6 : 14 ≤ op ∧ op ≤ 16
  · rw [if_neg c5, if_pos c6]; exact ⟨by omega, by omega, by omega, fun _ => ⟨by omega, by omega⟩⟩
  by_cases c7 : op = 17 ∨ op = 18
  · rw [if_neg c5, if_neg c6, if_pos c7]; exact ⟨by omega, by omega, by omega, fun _ => ⟨by omega, fun _ => rfl⟩⟩
  rw [if_neg c5, if_neg c6, if_neg c7] at h
  exact absurd h (by decide)

theorem one_str (d : Nat) (hd : d < 10) : strOfNums [(IntKind.u64.wrap (48 + (d : Int))) % 256] = ⟨[UInt8.ofNat (48 + d)].toArray⟩ := by
  rw [u64_id _ (by omega) (by omega), show ((48 + (d : Int)) % 256) = ((48 + d : Nat) : Int) by omega]
  simp only [strOfNums, List.map_cons, List.map_nil, Int.toNat_natCast]
  (try rfl)
theorem app_str (a b : List UInt8) : (⟨a.toArray⟩ : ByteArray) ++ ⟨b.toArray⟩ = ⟨(a ++ b).toArray⟩ := by
  apply ByteArray.ext
  simp [ByteArray.data_append]
theorem l1Num_val (u : Nat) : ∀ k, u < 18446744073709551616 → u < k → spec_l1Num.f k (u : Int) = some ⟨(Lib.decDigits u).toArray⟩ := by
  induction u using Nat.strongRecOn with
  | _ u ih =>
    intro k hu hk
    obtain ⟨k, rfl⟩ : ∃ m, k = m + 1 := ⟨k - 1, by omega⟩
    rw [spec_l1Num.f, Lib.decDigits]
    by_cases h : u < 10
    · rw [if_pos (by omega), dif_pos h, one_str u h]
    · have e1 : Int.tdiv (u : Int) 10 = ((u / 10 : Nat) : Int) := by rw [Int.tdiv_eq_ediv_of_nonneg (by omega)]; rfl
      have e2 : Int.tmod (u : Int) 10 = ((u % 10 : Nat) : Int) := by rw [Int.tmod_eq_emod_of_nonneg (by omega)]; rfl
      rw [if_neg (by omega), dif_neg h, e1, e2, u64_id _ (by omega) (by omega), ih (u / 10) (by omega) k (by omega) (by omega)]
      simp only [Option.bind_some]
      rw [one_str _ (by omega), app_str, if_pos]
      have h1 : (Lib.decDigits (u / 10)).length ≤ 20 := by
        rw [Lib.decDigits_length]
        have := Lib.numDigits_eq (u / 10) (by omega) (by omega)
        split at this <;> omega
      show (Lib.decDigits (u / 10)).toArray.size + 1 ≤ _
      rw [List.size_toArray]
      omega
/-- The decimal numeral. -/
def dec (n : Int) : ByteArray := ⟨(Lib.decDigits n.toNat).toArray⟩
theorem dec_size (n : Int) (h0 : 0 ≤ n) (h1 : n < 18446744073709551616) : (dec n).size ≤ 20 := by
  show (Lib.decDigits n.toNat).toArray.size ≤ 20
  rw [List.size_toArray, Lib.decDigits_length]
  by_cases h : 1 ≤ n.toNat
  · have := Lib.numDigits_eq n.toNat h (by omega)
    split at this <;> omega
  · rw [Lib.nDigits_small (by omega)]; omega
theorem dec_spec (k : Nat) (n : Int) (h0 : 0 ≤ n) (h1 : n < 18446744073709551616) (hk : 18446744073709551616 ≤ k) : spec_l1Num.f k n = some (dec n) := by
  obtain ⟨u, rfl⟩ := Int.eq_ofNat_of_zero_le h0
  rw [l1Num_val u k (by omega) (by omega)]
  rfl
theorem dec_impl (n : Int) (h0 : 0 ≤ n) (h1 : n < 18446744073709551616) : impl_NumText.f n = some (dec n) := by
  unfold impl_NumText.f
  rw [if_pos ⟨h0, h1⟩]
  rfl
/-- A variable's name. -/
def nameS (n : Int) : ByteArray := if n = 0 then ⟨#[97]⟩ else if n = 1 then ⟨#[98]⟩ else if n = 2 then ⟨#[99]⟩ else ⟨#[100]⟩
theorem name_spec (n : Int) (h0 : 0 ≤ n) (h1 : n < 4) : spec_l3Name.f n = some (nameS n) := by
  have h : n = 0 ∨ n = 1 ∨ n = 2 ∨ n = 3 := by omega
  have e : ∀ m : Int, 0 ≤ m → m < 4 → (wrap64 (97 + m)) % 256 = 97 + m := fun m a b => by rw [wrap64_id _ (by omega) (by omega)]; omega
  unfold spec_l3Name.f
  rw [e n h0 h1]
  rcases h with rfl | rfl | rfl | rfl <;> rfl
theorem name_impl (n : Int) (h0 : 0 ≤ n) (h1 : n < 4) : impl_nameOf.f n = some (nameS n) := by
  have h : n = 0 ∨ n = 1 ∨ n = 2 ∨ n = 3 := by omega
  unfold impl_nameOf.f
  rw [wrap64_id _ (by omega) (by omega), if_pos h0, if_pos (by omega), if_pos (by omega)]
  rcases h with rfl | rfl | rfl | rfl <;> rfl
/-- The sign of an operator with two operands. -/
def signS (op : Int) : ByteArray :=
  if op = 3 then ⟨#[43]⟩ else if op = 4 then ⟨#[45]⟩ else if op = 5 then ⟨#[42]⟩ else if op = 6 then ⟨#[47]⟩ else if op = 7 then ⟨#[37]⟩ else if op = 8 then ⟨#[38]⟩ else if op = 9 then ⟨#[124]⟩
  else if op = 10 then ⟨#[94]⟩ else if op = 11 then ⟨#[60, 60]⟩ else if op = 12 then ⟨#[62, 62]⟩ else if op = 14 then ⟨#[61, 61]⟩ else if op = 15 then ⟨#[60]⟩ else if op = 16 then ⟨#[60, 45]⟩ else if op = 17 then ⟨#[38, 38]⟩ else ⟨#[124, 124]⟩
theorem op_cases {op : Int} (h0 : 3 ≤ op) (h1 : op ≤ 18) (h2 : op ≠ 13) : op = 3 ∨ op = 4 ∨ op = 5 ∨ op = 6 ∨ op = 7 ∨ op = 8 ∨ op = 9 ∨ op = 10 ∨ op = 11 ∨ op = 12 ∨ op = 14 ∨ op = 15 ∨ op = 16 ∨ op = 17 ∨ op = 18 := by omega
theorem sign_spec (op : Int) (h0 : 3 ≤ op) (h1 : op ≤ 18) (h2 : op ≠ 13) : spec_l3Sign.f op = some (signS op) ∧ (signS op).size ≤ 2 := by
  rcases op_cases h0 h1 h2 with rfl | rfl | rfl | rfl | rfl | rfl | rfl | rfl | rfl | rfl | rfl | rfl | rfl | rfl | rfl <;> exact ⟨rfl, by decide⟩
theorem sign_impl (op : Int) (h0 : 3 ≤ op) (h1 : op ≤ 18) (h2 : op ≠ 13) : impl_signOf.f op = some (signS op) := by
  unfold impl_signOf.f impl_signs.f
  simp only [Option.bind_some]
  rw [wrap64_id _ (by omega) (by omega), if_pos (by omega), if_pos (by simp only [List.length_cons, List.length_nil]; omega)]
  rcases op_cases h0 h1 h2 with rfl | rfl | rfl | rfl | rfl | rfl | rfl | rfl | rfl | rfl | rfl | rfl | rfl | rfl | rfl <;> rfl
def yesS : ByteArray := ⟨#[121, 101, 115]⟩
def noS : ByteArray := ⟨#[110, 111]⟩
def openS : ByteArray := ⟨#[40]⟩
def shutS : ByteArray := ⟨#[41]⟩
def flipS : ByteArray := ⟨#[126]⟩
def notS : ByteArray := ⟨#[33]⟩
theorem sizes_S : yesS.size = 3 ∧ noS.size = 2 ∧ openS.size = 1 ∧ shutS.size = 1 ∧ flipS.size = 1 ∧ notS.size = 1 := ⟨rfl, rfl, rfl, rfl, rfl, rfl⟩
/-- A tree's text. -/
def txt : Tr → ByteArray
  | .leaf x => if x.f0 = 2 then nameS x.f1 else if x.f0 = 20 then (if x.f1 = 1 then yesS else noS) else dec x.f1
  | .one x a => (if x.f0 = 13 then flipS else notS) ++ txt a
  | .two x a b => (((openS ++ txt a) ++ signS x.f0) ++ txt b) ++ shutS
theorem name_size (n : Int) : (nameS n).size = 1 := by
  unfold nameS
  split
  · rfl
  · split
    · rfl
    · split <;> rfl
/-- Numbers of nodes that fit. -/
def okT (tr : Tr) : Prop := ∀ x ∈ tr.flat, 0 ≤ x.f1 ∧ x.f1 < 18446744073709551616
theorem okT_one {x : Nd} {a : Tr} (h : okT (Tr.one x a)) : okT a := fun y hy => h y (by simp [Tr.flat, hy])
theorem okT_two {x : Nd} {a b : Tr} (h : okT (Tr.two x a b)) : okT a ∧ okT b := ⟨fun y hy => h y (by simp [Tr.flat, hy]), fun y hy => h y (by simp [Tr.flat, hy])⟩
theorem okT_root {tr : Tr} (h : okT tr) : 0 ≤ tr.root.f1 ∧ tr.root.f1 < 18446744073709551616 := by
  obtain ⟨u, hu⟩ := flat_root tr
  exact h _ (by rw [hu]; simp)
theorem txt_size (w v : Int) (tr : Tr) : ∀ kd, tr.good w v kd → okT tr → (txt tr).size ≤ 20 * tr.flat.length := by
  obtain ⟨z1, z2, z3, z4, z5, z6⟩ := sizes_S
  induction tr with
  | leaf x =>
    intro kd hg ho
    have hr := okT_root ho
    simp only [Tr.root] at hr
    simp only [txt, Tr.flat, List.length_cons, List.length_nil]
    by_cases h : x.f0 = 2
    · rw [if_pos h, name_size]; omega
    · rw [if_neg h]
      by_cases h2 : x.f0 = 20
      · rw [if_pos h2]
        by_cases h3 : x.f1 = 1
        · rw [if_pos h3, z1]; omega
        · rw [if_neg h3, z2]; omega
      · rw [if_neg h2]
        have := dec_size x.f1 hr.1 hr.2
        omega
  | one x a iha =>
    intro kd hg ho
    have ha := iha _ hg.2.2.2.2 (okT_one ho)
    simp only [txt, Tr.flat, List.length_append, List.length_cons, List.length_nil, ByteArray.size_append]
    by_cases h : x.f0 = 13
    · rw [if_pos h, z5]; omega
    · rw [if_neg h, z6]; omega
  | two x a b iha ihb =>
    intro kd hg ho
    have ha := iha _ hg.2.2.2.2.1 (okT_two ho).1
    have hb := ihb _ hg.2.2.2.2.2 (okT_two ho).2
    obtain ⟨o1, o2, o3, _⟩ := need2 x.f0 hg.1
    have hs := (sign_spec x.f0 o1 o2 o3).2
    simp only [txt, Tr.flat, List.length_append, List.length_cons, List.length_nil, ByteArray.size_append, z3, z4]
    omega
theorem leaf_small {w v : Int} {x : Nd} (hv : v ≤ 4) (h : leafB w v x = true) : (x.f0 = 2 → x.f1 < 4) ∧ (x.f0 = 20 → x.f1 ≤ 1) := by
  unfold leafB at h
  refine ⟨fun h2 => ?_, fun h2 => ?_⟩
  · rw [if_neg (by omega), if_pos h2] at h
    have := of_decide_eq_true h
    omega
  · rw [if_neg (by omega), if_neg (by omega), if_pos h2] at h
    exact of_decide_eq_true h
theorem text_spec (w v : Int) (hv : v ≤ 4) (t : List Nd) (ht : t.length ≤ 48) (tr : Tr) : ∀ (lo k : Nat) (kd i : Int), stands t lo tr → tr.good w v kd → okT tr →
    i = (lo : Int) + tr.flat.length - 1 → 18446744073709551616 + 3 * tr.flat.length + 155 < k → spec_l3Text.f k t i = some (txt tr) := by
  obtain ⟨z1, z2, z3, z4, z5, z6⟩ := sizes_S
  have eb : ∀ b c : Int, b ≠ c → ¬ (b == c) = true := fun b c h => by simpa using h
  induction tr with
  | leaf x =>
    intro lo k kd i hst hg ho hi hk
    obtain ⟨k, rfl⟩ : ∃ m, k = m + 2 := ⟨k - 2, by omega⟩
    have hl := stands_len hst
    have hp := flat_pos (.leaf x)
    have hr := stands_rd hst i hi
    have hq := okT_root ho
    simp only [Tr.root] at hq hr
    simp only [Tr.flat, List.length_cons, List.length_nil] at hk
    have hsm := leaf_small hv hg.2.2.2
    simp only [spec_l3Text.f]
    rewrite [if_pos (by omega), if_pos (by omega), hr, need_spec _ _ (by omega)]
    simp only [Option.bind_some, txt]
    by_cases h : x.f0 = 2
    · have := hsm.1 h
      rewrite [if_pos h, wrap64_id _ (by omega) (by omega), name_spec _ hq.1 this, if_pos h]; rfl
    · rewrite [if_neg h, if_neg h]
      by_cases h2 : x.f0 = 20
      · rewrite [if_pos h2, if_pos h2]
        simp only [spec_l3Text.j0]
        by_cases h3 : x.f1 = 1
        · rewrite [if_pos (by simpa using h3), if_pos h3]; rfl
        · rewrite [if_neg (eb _ _ h3), if_pos h2, if_neg h3]; rfl
      · rewrite [if_neg h2, if_neg h2]
        simp only [spec_l3Text.j0]
        rewrite [if_neg (by decide), if_neg h2, if_pos hg.1, dec_spec _ _ hq.1 hq.2 (by omega)]; rfl
  | one x a iha =>
    intro lo k kd i hst hg ho hi hk
    obtain ⟨k, rfl⟩ : ∃ m, k = m + 2 := ⟨k - 2, by omega⟩
    have hl := stands_len hst
    have hp := flat_pos (.one x a)
    have hr := stands_rd hst i hi
    have hsz := txt_size w v a _ hg.2.2.2.2 (okT_one ho)
    simp only [Tr.flat, List.length_append, List.length_cons, List.length_nil] at hi hl hk hp
    have hpa := flat_pos a
    have ha := iha lo k _ (i - 1) (stands_one hst) hg.2.2.2.2 (okT_one ho) (by omega) (by omega)
    have e1 : wrap64 (i - 1) = i - 1 := wrap64_id _ (by omega) (by omega)
    have hm := hg.1
    have hn := need1 x.f0 hm
    simp only [Tr.root] at hr
    simp only [spec_l3Text.f]
    rewrite [if_pos (by omega), if_pos (by omega), hr, need_spec _ _ (by omega)]
    simp only [Option.bind_some, txt]
    rewrite [if_neg (by omega), if_neg (by omega)]
    simp only [spec_l3Text.j0]
    rewrite [if_neg (by decide), if_neg (by omega), if_neg (by omega), if_pos hm, e1, ha]
    rcases hn with h | h
    · rewrite [show spec_l3Sign.f x.f0 = some flipS by rw [h]; rfl, if_pos h]
      simp only [Option.bind_some]
      rewrite [if_pos (by omega)]; rfl
    · rewrite [show spec_l3Sign.f x.f0 = some notS by rw [h]; rfl, if_neg (by omega)]
      simp only [Option.bind_some]
      rewrite [if_pos (by omega)]; rfl
  | two x a b iha ihb =>
    intro lo k kd i hst hg ho hi hk
    obtain ⟨k, rfl⟩ : ∃ m, k = m + 2 := ⟨k - 2, by omega⟩
    have hl := stands_len hst
    have hp := flat_pos (.two x a b)
    have hr := stands_rd hst i hi
    have hsa := txt_size w v a _ hg.2.2.2.2.1 (okT_two ho).1
    have hsb := txt_size w v b _ hg.2.2.2.2.2 (okT_two ho).2
    simp only [Tr.flat, List.length_append, List.length_cons, List.length_nil] at hi hl hk hp
    have hpa := flat_pos a
    have hpb := flat_pos b
    obtain ⟨s1, s2⟩ := stands_two hst
    have hb := ihb (lo + a.flat.length) k _ (i - 1) s2 hg.2.2.2.2.2 (okT_two ho).2 (by omega) (by omega)
    have hfr := from_val w v t ht b (lo + a.flat.length) k _ (i - 1) s2 hg.2.2.2.2.2 (by omega) (by omega)
    have ha := iha lo k _ (((lo + a.flat.length : Nat) : Int) - 1) s1 hg.2.2.2.2.1 (okT_two ho).1 (by omega) (by omega)
    have e1 : wrap64 (i - 1) = i - 1 := wrap64_id _ (by omega) (by omega)
    have e2 : wrap64 (((lo + a.flat.length : Nat) : Int) - 1) = ((lo + a.flat.length : Nat) : Int) - 1 := wrap64_id _ (by omega) (by omega)
    have hm := hg.1
    obtain ⟨o1, o2, o3, _⟩ := need2 x.f0 hg.1
    obtain ⟨q1, q2⟩ := sign_spec x.f0 o1 o2 o3
    simp only [Tr.root] at hr
    simp only [spec_l3Text.f]
    rewrite [if_pos (by omega), if_pos (by omega), hr, need_spec _ _ (by omega)]
    simp only [Option.bind_some]
    rewrite [if_neg (by omega), if_neg (by omega)]
    simp only [spec_l3Text.j0]
    rewrite [if_neg (by decide), if_neg (by omega), if_neg (by omega), if_neg (by omega), e1, hfr]
    simp only [Option.bind_some]
    rewrite [e2, ha, hb, q1]
    simp only [Option.bind_some]
    rewrite [if_pos (by omega), if_pos (by omega), if_pos (by omega), if_pos (by omega)]
    rfl
end Go.Proofs.YtckdgmbmjfhodaaDoor.Pure

namespace Go.Proofs.YtckdgmbmjfhodaaDoor.Pure
open Go.RowKit Go.Proofs.YtckdgmbmjfhodaaDoor.X Go.Proofs.YtckdgmbmjfhodaaDoorW.PrintWords Go.Proofs.YtckdgmbmjfhodaaDoorW.PrintLast Go.Proofs.YtckdgmbmjfhodaaDoor.Bits

theorem rdS_snoc (X : List ByteArray) (a : ByteArray) (i : Int) (h : i = (X.length : Int)) : rdOf ByteArray.empty (X ++ [a]) i = a := by
  subst h
  unfold rdOf
  rw [Int.toNat_natCast, List.getD_eq_getElem?_getD, List.getElem?_append_right (by omega), Nat.sub_self]; rfl
theorem rdS_snoc2 (X : List ByteArray) (a b : ByteArray) (i : Int) (h : i = (X.length : Int)) : rdOf ByteArray.empty (X ++ [a] ++ [b]) i = a := by
  subst h
  unfold rdOf
  rw [Int.toNat_natCast, List.getD_eq_getElem?_getD, List.append_assoc, List.getElem?_append_right (by omega), Nat.sub_self]; rfl
theorem stepT0 (k : Nat) (w v : Int) (hv : v ≤ 4) (X : List ByteArray) (t : List Nd) (ht : t.length ≤ 48) (x : Nd) (i : Nat) (hi : i < t.length) (hx : t[i] = x) (hX : X.length ≤ i) (h0 : (need x.f0).1 = 0) (h2 : (need x.f0).2.2 ≠ 0)
    (hl : leafB w v x = true) (hf : 0 ≤ x.f1 ∧ x.f1 < 18446744073709551616) :
    impl_termText.l0 (k + 1) X t (t.length : Int) (i : Int) = impl_termText.l0 k (X ++ [txt (.leaf x)]) t (t.length : Int) ((i + 1 : Nat) : Int) := by
  have e1 : wrap64 ((i : Int) + 1) = ((i + 1 : Nat) : Int) := by rw [wrap64_id _ (by omega) (by omega)]; omega
  have hsm := leaf_small hv hl
  have hXl : X.length < 8796093022208 := by omega
  simp only [impl_termText.l0]
  rewrite [if_pos (by omega), if_pos (by omega), if_pos (by omega), rd_at hi, hx]
  simp only [txt]
  rcases need0 x.f0 h0 h2 with h | h | h
  · rewrite [if_pos h, dec_impl _ hf.1 hf.2]
    simp only [Option.bind_some]
    rewrite [if_pos hXl, e1, if_neg (by omega), if_neg (by omega)]
    rfl
  · have := hsm.1 h
    rewrite [if_neg (by omega), if_pos h, wrap64_id x.f1 (by omega) (by omega), name_impl _ hf.1 this]
    simp only [Option.bind_some]
    rewrite [if_pos hXl, e1, if_pos h]
    rfl
  · have := hsm.2 h
    rewrite [if_neg (by omega), if_neg (by omega), if_pos h]
    simp only [Option.bind_some]
    rewrite [if_pos hf.1, if_pos (by simp only [List.length_cons, List.length_nil]; omega), if_pos hXl, e1, if_neg (by omega), if_pos h]
    by_cases h3 : x.f1 = 1
    · rewrite [if_pos h3, h3]; rfl
    · have h4 : x.f1 = 0 := by omega
      rewrite [if_neg h3, h4]; rfl
theorem stepT1 (k : Nat) (X : List ByteArray) (a : ByteArray) (ha : a.size ≤ 100000) (t : List Nd) (ht : t.length ≤ 48) (x : Nd) (i : Nat) (hi : i < t.length) (hx : t[i] = x) (hX : X.length < i) (h0 : (need x.f0).1 = 1) :
    impl_termText.l0 (k + 1) (X ++ [a]) t (t.length : Int) (i : Int) = impl_termText.l0 k (X ++ [(if x.f0 = 13 then flipS else notS) ++ a]) t (t.length : Int) ((i + 1 : Nat) : Int) := by
  have e1 : wrap64 ((i : Int) + 1) = ((i + 1 : Nat) : Int) := by rw [wrap64_id _ (by omega) (by omega)]; omega
  have hlen : (X ++ [a]).length = X.length + 1 := by simp
  have e2 : wrap64 (((X ++ [a]).length : Int) - 1) = (X.length : Int) := by rw [wrap64_id _ (by omega) (by omega)]; omega
  have hset : ∀ z, (X ++ [a]).set X.length z = X ++ [z] := fun z => by simp
  simp only [impl_termText.l0]
  rewrite [if_pos (by omega), if_pos (by omega), if_pos (by omega), rd_at hi, hx]
  rcases need1 x.f0 h0 with h | h
  · rewrite [if_neg (by omega), if_neg (by omega), if_neg (by omega), if_pos h, e2, if_pos (by omega), if_pos (by omega), rdS_snoc X a _ rfl, if_pos (by omega), Int.toNat_natCast, hset, e1, if_pos h]
    rfl
  · rewrite [if_neg (by omega), if_neg (by omega), if_neg (by omega), if_neg (by omega), if_pos h, e2, if_pos (by omega), if_pos (by omega), rdS_snoc X a _ rfl, if_pos (by omega), Int.toNat_natCast, hset, e1, if_neg (by omega)]
    rfl
theorem stepT2 (k : Nat) (X : List ByteArray) (a b : ByteArray) (ha : a.size ≤ 100000) (hb : b.size ≤ 100000) (t : List Nd) (ht : t.length ≤ 48) (x : Nd) (i : Nat) (hi : i < t.length) (hx : t[i] = x) (hX : X.length + 1 < i) (h0 : (need x.f0).1 = 2) :
    impl_termText.l0 (k + 1) (X ++ [a] ++ [b]) t (t.length : Int) (i : Int) = impl_termText.l0 k (X ++ [(((openS ++ a) ++ signS x.f0) ++ b) ++ shutS]) t (t.length : Int) ((i + 1 : Nat) : Int) := by
  have e1 : wrap64 ((i : Int) + 1) = ((i + 1 : Nat) : Int) := by rw [wrap64_id _ (by omega) (by omega)]; omega
  have hlen : (X ++ [a] ++ [b]).length = X.length + 2 := by simp
  have e2 : wrap64 (((X ++ [a] ++ [b]).length : Int) - 1) = ((X.length + 1 : Nat) : Int) := by rw [wrap64_id _ (by omega) (by omega)]; omega
  have e3 : wrap64 (((X.length + 1 : Nat) : Int) - 1) = (X.length : Int) := by rw [wrap64_id _ (by omega) (by omega)]; omega
  have htk : (X ++ [a] ++ [b]).take X.length = X := by rw [List.append_assoc, List.take_left' rfl]
  obtain ⟨o1, o2, o3, _⟩ := need2 x.f0 h0
  have hss := (sign_spec x.f0 o1 o2 o3).2
  simp only [impl_termText.l0]
  rewrite [if_pos (by omega), if_pos (by omega), if_pos (by omega), rd_at hi, hx]
  rewrite [if_neg (by omega), if_neg (by omega), if_neg (by omega), if_neg (by omega), if_neg (by omega), e2, e3, if_pos (by omega), if_pos (by omega), Int.toNat_natCast, htk]
  simp only [Option.bind_some]
  rewrite [if_pos (by omega), rdS_snoc2 X a b _ rfl, if_pos (by omega), sign_impl x.f0 o1 o2 o3]
  simp only [Option.bind_some]
  rewrite [if_pos (by omega), if_pos (by omega), if_pos (by omega), rdS_snoc (X ++ [a]) b _ (by simp), if_pos (by omega), if_pos (by omega), if_pos (by omega), e1]
  rfl
theorem text_impl (w v : Int) (hv : v ≤ 4) (t : List Nd) (ht : t.length ≤ 48) (tr : Tr) : ∀ (lo k : Nat) (kd : Int) (X : List ByteArray), stands t lo tr → tr.good w v kd → okT tr →
    X.length ≤ lo → impl_termText.l0 (k + tr.flat.length) X t (t.length : Int) (lo : Int) = impl_termText.l0 k (X ++ [txt tr]) t (t.length : Int) ((lo + tr.flat.length : Nat) : Int) := by
  induction tr with
  | leaf x =>
    intro lo k kd X hst hg ho hX
    have hl := stands_len hst
    have hr := stands_root hst
    simp only [Tr.flat, List.length_cons, List.length_nil, Tr.root, Nat.zero_add, Nat.add_sub_cancel] at hl hr ⊢
    have hi : lo < t.length := by omega
    rw [List.getElem?_eq_getElem hi] at hr
    exact stepT0 k w v hv X t ht x lo hi (Option.some.inj hr) hX hg.1 (by rw [hg.2.1]; exact hg.2.2.1) hg.2.2.2 (okT_root ho)
  | one x a iha =>
    intro lo k kd X hst hg ho hX
    have hl := stands_len hst
    have hr := stands_root hst
    have hpa := flat_pos a
    have hsz := txt_size w v a _ hg.2.2.2.2 (okT_one ho)
    simp only [Tr.flat, List.length_append, List.length_cons, List.length_nil, Tr.root, Nat.zero_add] at hl hr ⊢
    rw [show lo + (a.flat.length + 1) - 1 = lo + a.flat.length by omega] at hr
    have hi : lo + a.flat.length < t.length := by omega
    rw [List.getElem?_eq_getElem hi] at hr
    have ha := iha lo (k + 1) _ X (stands_one hst) hg.2.2.2.2 (okT_one ho) hX
    rw [show k + (a.flat.length + 1) = k + 1 + a.flat.length by omega, ha]
    rw [stepT1 k X (txt a) (by omega) t ht x (lo + a.flat.length) hi (Option.some.inj hr) (by omega) hg.1]
    rfl
  | two x a b iha ihb =>
    intro lo k kd X hst hg ho hX
    have hl := stands_len hst
    have hr := stands_root hst
    have hpa := flat_pos a
    have hpb := flat_pos b
    have hsa := txt_size w v a _ hg.2.2.2.2.1 (okT_two ho).1
    have hsb := txt_size w v b _ hg.2.2.2.2.2 (okT_two ho).2
    obtain ⟨s1, s2⟩ := stands_two hst
    simp only [Tr.flat, List.length_append, List.length_cons, List.length_nil, Tr.root, Nat.zero_add] at hl hr ⊢
    rw [show lo + (a.flat.length + (b.flat.length + 1)) - 1 = lo + a.flat.length + b.flat.length by omega] at hr
    have hi : lo + a.flat.length + b.flat.length < t.length := by omega
    rw [List.getElem?_eq_getElem hi] at hr
    have ha := iha lo (k + 1 + b.flat.length) _ X s1 hg.2.2.2.2.1 (okT_two ho).1 hX
    have hb := ihb (lo + a.flat.length) (k + 1) _ (X ++ [txt a]) s2 hg.2.2.2.2.2 (okT_two ho).2 (by simp; omega)
    rw [show k + (a.flat.length + (b.flat.length + 1)) = k + 1 + b.flat.length + a.flat.length by omega, ha, hb]
    rw [stepT2 k X (txt a) (txt b) (by omega) (by omega) t ht x (lo + a.flat.length + b.flat.length) hi (Option.some.inj hr) (by omega) hg.1]
    rw [show lo + (a.flat.length + (b.flat.length + 1)) = lo + a.flat.length + b.flat.length + 1 by omega]
    rfl
theorem termText_impl (k : Nat) (w v : Int) (hv : v ≤ 4) (tr : Tr) (kd : Int) (hg : tr.good w v kd) (ho : okT tr) (ht : tr.flat.length ≤ 48) (hk : 200 < k) :
    impl_termText.f k tr.flat = some (txt tr) := by
  obtain ⟨m, rfl⟩ : ∃ m, k = m + 1 + tr.flat.length := ⟨k - 1 - tr.flat.length, by omega⟩
  have h := text_impl w v hv tr.flat ht tr 0 (m + 1) kd [] (stands_all tr) hg ho (by simp)
  unfold impl_termText.f
  have h' : impl_termText.l0 (m + 1 + tr.flat.length) [] tr.flat (tr.flat.length : Int) 0 = impl_termText.l0 (m + 1) [txt tr] tr.flat (tr.flat.length : Int) ((0 + tr.flat.length : Nat) : Int) := h
  rewrite [h']
  simp only [impl_termText.l0]
  rewrite [if_neg (by omega), if_pos (by simp)]
  rfl
end Go.Proofs.YtckdgmbmjfhodaaDoor.Pure

namespace Go.Proofs.YtckdgmbmjfhodaaDoor.Pure
open Go.RowKit Go.Proofs.YtckdgmbmjfhodaaDoor.X Go.Proofs.YtckdgmbmjfhodaaDoorW.PrintWords Go.Proofs.YtckdgmbmjfhodaaDoorW.PrintLast Go.Proofs.YtckdgmbmjfhodaaDoor.Bits

theorem good_wide {w v : Int} {t : List Nd} (h : kindT w v t > 0) : 1 ≤ w ∧ w ≤ 64 ∧ 1 ≤ v ∧ v ≤ 4 := by
  unfold kindT at h
  split at h
  · rename_i hc; exact ⟨hc.1, hc.2.1, hc.2.2.1, hc.2.2.2.1⟩
  · exact absurd h (by decide)
theorem kind_len {w v : Int} {t : List Nd} (h : kindT w v t > 0) : t.length ≤ 48 := by
  unfold kindT at h
  split at h
  · rename_i hc; exact hc.2.2.2.2.2
  · exact absurd h (by decide)
theorem text_both (k : Nat) (w v : Int) (t : List Nd) (hok : okNodes t) (hk : 18446744073709551616 + 600 < k) :
    ∃ r, spec_TermText.f k w v t = some r ∧ impl_TermText.f k w v t = some r := by
  unfold spec_TermText.f impl_TermText.f
  rewrite [goodTerm_spec k w _ t hok (by omega), goodTerm_impl k w _ t hok (by omega)]
  simp only [Option.bind_some, decide_eq_true_eq]
  by_cases hg : kindT w v t > 0
  · have hw := good_wide hg
    rewrite [if_pos hg, if_pos hg]
    obtain ⟨tr, htr, hf⟩ := kind_tree w _ t hg
    subst hf
    have hlen := kind_len hg
    have hp := flat_pos tr
    have hv1 := text_spec w v hw.2.2.2 tr.flat hlen tr 0 k _ ((tr.flat.length : Int) - 1) (stands_all tr) htr hok (by omega) (by omega)
    have hv2 := termText_impl k w v hw.2.2.2 tr _ htr hok hlen (by omega)
    rewrite [wrap64_id _ (by omega) (by omega), hv1, hv2]
    simp only [Option.bind_some]
    by_cases h8 : ((txt tr).size : Int) > 800
    · rewrite [if_pos h8]; exact ⟨_, rfl, rfl⟩
    · rewrite [if_neg h8]; exact ⟨_, rfl, rfl⟩
  · rewrite [if_neg hg, if_neg hg]
    exact ⟨_, rfl, rfl⟩
theorem FnExactTermText : laws_FnExactTermText.Pure := by
  intro w v l _ _ hl
  have hlen := hl.1
  simp only [maxLen] at hlen
  obtain ⟨K, hK⟩ : ∃ K : Nat, K = 18446744073709551616 + 2000 + l.length := ⟨_, rfl⟩
  refine ⟨K, ?_⟩
  unfold laws_FnExactTermText.f
  rewrite [sz_val l hlen]
  simp only [Option.bind_some]
  by_cases hbig : 1048576 < l.length
  · rw [if_pos hbig, if_pos (by decide)]
  · have hok := conv_ok l hl.2
    obtain ⟨r, h1, h2⟩ := text_both K w v (l.map conv) hok (by omega)
    have hgo : laws_FnExactTermText.j0 K l (l.map conv) false = some true := by
      obtain ⟨k, hk⟩ : ∃ m, K = m + 1 := ⟨K - 1, by omega⟩
      rw [hk]
      simp only [laws_FnExactTermText.j0]
      rewrite [if_neg (by decide), toNodes_val _ l (by omega) (by omega)]
      simp only [Option.bind_some]
      rewrite [eqNodes_val _ _ (by simp; omega) (by simp; omega)]
      rfl
    rewrite [if_neg hbig, if_neg (by omega), toNodes_val _ l (by omega) (by omega)]
    simp only [Option.bind_some]
    rewrite [h1, h2]
    simp only [Option.bind_some]
    rewrite [if_pos trivial]
    have hb : (r.2 != r.2) = false := by simp
    rewrite [hb]
    exact hgo
end Go.Proofs.YtckdgmbmjfhodaaDoor.Pure
