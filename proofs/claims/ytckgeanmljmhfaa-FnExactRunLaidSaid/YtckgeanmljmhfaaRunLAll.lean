/- Bits of 64-bit words as the model tells them: and, or, xor, shifts and masks as remainders and powers of two. No condition. What the functions on words compute: each printed function's value, in terms of remainders and powers of two. Conditions: the numbers are of their kinds. Terms as lists of nodes: what an operator needs, whether a node's number fits, and the stack of kinds; the reference's and the program's functions come to these. Conditions: numbers are of their kinds, lists no longer than 2^20. Lists of gates and of numbers, as the laws compare them, write them over and look at them again; and what makes a circuit good. Conditions: lists no longer than 2^20. Lists of nodes as the laws hand them over: copied, compared, measured. Conditions: those named. The circuit of a good and plain term is always built: the stack of wires follows the stack of kinds; both sides' GatesFor come to one plain function. Conditions: numbers are of their kinds. The law on RunLaid: the bits of a state, the circuit of a term, its run and the word of its outputs come to the same on both sides. Conditions: those of the law's own Pure. -/
import Derived.Test.YtckgeanmljmhfaaWMore
import Derived.Laws.BitsLemmas
import Derived.Test.YtckgeanmljmhfaaXO
import Derived.Test.YtckgeanmljmhfaaX1
import Derived.Test.YtckgeanmljmhfaaX5
import Derived.Test.YtckgeanmljmhfaaX16
import Derived.Test.YtckgeanmljmhfaaX18
import Derived.Test.YtckgeanmljmhfaaX21
import Derived.Test.YtckgeanmljmhfaaX27
import Derived.Test.YtckgeanmljmhfaaX38
import Derived.Test.YtckgeanmljmhfaaX43
import Derived.Test.YtckgeanmljmhfaaX53
import Derived.Test.YtckgeanmljmhfaaX54
import Derived.Test.YtckgeanmljmhfaaX59
import Derived.Test.YtckgeanmljmhfaaX61
import Derived.Test.YtckgeanmljmhfaaX62
namespace Go.Proofs.Ytckgeanmljmhfaa.Bits
open Go.RowKit Go.Proofs.YtckgeanmljmhfaaW.PrintWords

theorem wrap_u64 (n : Int) : IntKind.u64.wrap n = n % 18446744073709551616 := by simp [IntKind.wrap, IntKind.bits, IntKind.signed]
theorem wraps_u64 (n : Int) (h₀ : 0 ≤ n) (h₁ : n < 2 ^ 64) : IntKind.u64.wrap n = n := by rw [wrap_u64]; omega
theorem u64_id (n : Int) (h₀ : 0 ≤ n) (h₁ : n < 18446744073709551616) : IntKind.u64.wrap n = n := by rw [wrap_u64]; omega
theorem and_u64 (a b : Nat) (ha : a < 2 ^ 64) (hb : b < 2 ^ 64) : Go.bits .and .u64 a b = ((a &&& b : Nat) : Int) := (bits_nat .u64 64 (by decide) wraps_u64 a b ha hb).1
theorem or_u64 (a b : Nat) (ha : a < 2 ^ 64) (hb : b < 2 ^ 64) : Go.bits .or .u64 a b = ((a ||| b : Nat) : Int) := (bits_nat .u64 64 (by decide) wraps_u64 a b ha hb).2
theorem wf_u64 {a : Int} (h : (Lit.int .u64 a).wf = true) : 0 ≤ a ∧ a < 18446744073709551616 := by
 have : 0 ≤ a ∧ a ≤ 18446744073709551615 := by
  simpa [Lit.wf, IntKind.min, IntKind.max, IntKind.signed, IntKind.bits] using h
 omega
theorem wrap64_id (n : Int) (h0 : -9223372036854775808 ≤ n) (h1 : n ≤ 9223372036854775807) : wrap64 n = n := by unfold wrap64; omega

theorem pow_pos (n : Nat) : (0 : Int) < 2 ^ n := Int.pow_pos (by decide)

theorem shl_one (k : Nat) (h : k < 64) : shl .u64 1 (k : Int) = ((2 ^ k : Nat) : Int) := by
 have hb : IntKind.u64.bits = 64 := rfl
 unfold shl
 rw [hb, Int.toNat_natCast, Nat.min_eq_left (by omega), Int.one_mul, wraps_u64]
 ·simp
 ·exact Int.le_of_lt (Int.pow_pos (by decide))
 ·exact_mod_cast Nat.pow_lt_pow_right (by decide) h
theorem mod_or_and (a k : Nat) : (a % 2 ^ k) ||| (a &&& 2 ^ k) = a % 2 ^ (k + 1) := by
 apply Nat.eq_of_testBit_eq
 intro i
 simp only [Nat.testBit_or, Nat.testBit_mod_two_pow, Nat.testBit_and, Nat.testBit_two_pow]
 by_cases h : i < k
 ·have h2 : ¬ k = i := by omega
  have h3 : i < k + 1 := by omega
  simp [h, h2, h3]
 ·by_cases h2 : k = i
  ·subst h2; simp
  ·have h3 : ¬ i < k + 1 := by omega
   simp [h, h2, h3]
/-- One round of the lower bits, bit by bit. -/
theorem cut_step (a : Int) (k : Nat) (h0 : 0 ≤ a) (ha : a < 18446744073709551616) (hk : k < 64) :
  Go.bits .or .u64 (a % 2 ^ k) (Go.bits .and .u64 a (shl .u64 1 (k : Int))) = a % 2 ^ (k + 1) := by
 obtain ⟨n, rfl⟩ := Int.eq_ofNat_of_zero_le h0
 have hn : n < 2 ^ 64 := by omega
 have e1 : ((n : Int) % 2 ^ k) = ((n % 2 ^ k : Nat) : Int) := by simp
 have e2 : ((n : Int) % 2 ^ (k + 1)) = ((n % 2 ^ (k + 1) : Nat) : Int) := by simp
 rw [e1, e2, shl_one k hk, and_u64 n _ hn (Nat.pow_lt_pow_right (by decide) hk), or_u64 _ _ (Nat.lt_of_le_of_lt (Nat.mod_le _ _) hn) (Nat.and_lt_two_pow _ (Nat.pow_lt_pow_right (by decide) hk)), mod_or_and]
theorem mask_val (w : Int) (h0 : 1 ≤ w) (h1 : w ≤ 64) : shr .u64 18446744073709551615 (64 - w) = 2 ^ w.toNat - 1 := by
 obtain ⟨n, rfl⟩ := Int.eq_ofNat_of_zero_le (show 0 ≤ w by omega)
 have hb : IntKind.u64.bits = 64 := rfl
 unfold shr
 rw [hb, Int.toNat_natCast, Nat.min_eq_left (by omega)]
 have e : (64 - (n : Int)).toNat = 64 - n := by omega
 rw [e]
 have hn : n ≤ 64 := by omega
 have hp : 0 < n := by omega
 have h2 : 2 ^ (64 - n) * 2 ^ n = 2 ^ 64 := by rw [← Nat.pow_add]; congr 1; omega
 have hx : 0 < 2 ^ (64 - n) := Nat.two_pow_pos _
 have hy : 0 < 2 ^ n := Nat.two_pow_pos _
 have h3 : (18446744073709551615 : Nat) / 2 ^ (64 - n) = 2 ^ n - 1 := by
  rw [Nat.div_eq_iff hx]
  have h4 : (2 ^ n - 1) * 2 ^ (64 - n) = 2 ^ 64 - 2 ^ (64 - n) := by rw [Nat.sub_mul, Nat.mul_comm, h2]; omega
  have h5 : 2 ^ (64 - n) ≤ 2 ^ 64 := Nat.pow_le_pow_right (by decide) (by omega)
  rw [h4]
  omega
 have h6 : (18446744073709551615 : Int) / 2 ^ (64 - n) = (((18446744073709551615 : Nat) / 2 ^ (64 - n) : Nat) : Int) := by simp
 rw [h6, h3, Int.natCast_sub hy]
 simp
/-- The words of a width. -/
def word (w a : Int) : Prop := 1 ≤ w ∧ w ≤ 64 ∧ 0 ≤ a ∧ a < 2 ^ w.toNat
instance (w a : Int) : Decidable (word w a) := by unfold word; infer_instance
end Go.Proofs.Ytckgeanmljmhfaa.Bits

namespace Go.Proofs.Ytckgeanmljmhfaa.Pure
open Go.RowKit Go.Proofs.Ytckgeanmljmhfaa.X Go.Proofs.YtckgeanmljmhfaaW.PrintWords Go.Proofs.Ytckgeanmljmhfaa.Bits

theorem l1In_val (a b c : Int) : spec_l1In.f a b c = some (decide (b ≤ a ∧ a ≤ c)) := by
 unfold spec_l1In.f
 by_cases h : a ≥ b
 ·rw [if_pos h]; simp [show b ≤ a from h]
 ·rw [if_neg h]; simp [show ¬ b ≤ a from h]
theorem l1Wide_val (a : Int) : spec_l1Wide.f a = some (decide (1 ≤ a ∧ a ≤ 64)) := by
 unfold spec_l1Wide.f
 rw [l1In_val]; rfl
theorem isWide_val (a : Int) : impl_isWide.f a = some (decide (1 ≤ a ∧ a ≤ 64)) := by
 unfold impl_isWide.f
 by_cases h : a ≥ 1
 ·rw [if_pos h]; simp [show 1 ≤ a from h]
 ·rw [if_neg h]; simp [show ¬ 1 ≤ a from h]
theorem mask_f (w : Int) (h0 : 1 ≤ w) (h1 : w ≤ 64) : impl_mask.f w = some (2 ^ w.toNat - 1) := by
 unfold impl_mask.f
 have e : wrap64 (64 - w) = 64 - w := wrap64_id _ (by omega) (by omega)
 rw [e, if_pos (by omega), mask_val w h0 h1]
theorem cut_loop (w a : Int) (h0 : 0 ≤ a) (ha : a < 18446744073709551616) (hw : w ≤ 64) (d : Nat) :
  ∀ (k i : Nat), (i : Int) + d = w → d < k → spec_l1Cut.l0 k w a (a % 2 ^ i) (i : Int) = some (a % 2 ^ w.toNat) := by
 induction d with
 | zero =>
  intro k i hi hk
  obtain ⟨k, rfl⟩ : ∃ m, k = m + 1 := ⟨k - 1, by omega⟩
  simp only [spec_l1Cut.l0]
  rw [if_neg (by omega), show w.toNat = i by omega]
 | succ d ih =>
  intro k i hi hk
  obtain ⟨k, rfl⟩ : ∃ m, k = m + 1 := ⟨k - 1, by omega⟩
  simp only [spec_l1Cut.l0]
  rw [if_pos (by omega), u64_id (i : Int) (by omega) (by omega), if_pos (by omega), cut_step a i h0 ha (by omega)]
  have e : wrap64 ((i : Int) + 1) = ((i + 1 : Nat) : Int) := by rw [wrap64_id _ (by omega) (by omega)]; omega
  rw [e]
  exact ih k (i + 1) (by omega) (by omega)
theorem cut_val (k : Nat) (w a : Int) (hk : 65 < k) (hw0 : 0 ≤ w) (hw : w ≤ 64) (h0 : 0 ≤ a) (ha : a < 18446744073709551616) :
  spec_l1Cut.f k w a = some (a % 2 ^ w.toNat) := by
 have := cut_loop w a h0 ha hw w.toNat k 0 (by omega) (by omega)
 unfold spec_l1Cut.f
 simpa using this
theorem cut_word (w a : Int) (h : word w a) : a % 2 ^ w.toNat = a := Int.emod_eq_of_lt h.2.2.1 h.2.2.2
theorem goodWord_spec (k : Nat) (w a : Int) (hk : 65 < k) (h0 : 0 ≤ a) (ha : a < 18446744073709551616) : spec_GoodWord.f k w a = some (decide (word w a)) := by
 unfold spec_GoodWord.f
 rw [l1Wide_val]
 simp only [Option.bind_some]
 by_cases h : 1 ≤ w ∧ w ≤ 64
 ·rw [if_pos (by simpa using h), cut_val k w a hk (by omega) h.2 h0 ha]
  simp only [Option.bind_some, Option.some.injEq]
  rw [Bool.eq_iff_iff]
  simp only [beq_iff_eq, decide_eq_true_eq]
  constructor
  ·intro e
   refine ⟨h.1, h.2, h0, ?_⟩
   rw [← e]; exact Int.emod_lt_of_pos _ (pow_pos _)
  ·exact cut_word w a
 ·rw [if_neg (by simpa using h)]
  have : ¬ word w a := fun e => h ⟨e.1, e.2.1⟩
  simp [this]
theorem goodWord_impl (w a : Int) (h0 : 0 ≤ a) : impl_GoodWord.f w a = some (decide (word w a)) := by
 unfold impl_GoodWord.f
 rw [isWide_val]
 simp only [Option.bind_some]
 by_cases h : 1 ≤ w ∧ w ≤ 64
 ·rw [if_pos (by simpa using h), mask_f w h.1 h.2]
  simp only [Option.bind_some, Option.some.injEq]
  rw [Bool.eq_iff_iff]
  simp only [decide_eq_true_eq]
  constructor
  ·intro e; exact ⟨h.1, h.2, h0, by omega⟩
  ·intro e; have := e.2.2.2; omega
 ·rw [if_neg (by simpa using h)]
  have : ¬ word w a := fun e => h ⟨e.1, e.2.1⟩
  simp [this]
end Go.Proofs.Ytckgeanmljmhfaa.Pure

namespace Go.Proofs.Ytckgeanmljmhfaa.Pure
open Go.RowKit Go.Proofs.Ytckgeanmljmhfaa.X Go.Proofs.YtckgeanmljmhfaaW.PrintWords Go.Proofs.YtckgeanmljmhfaaW.PrintLast Go.Proofs.Ytckgeanmljmhfaa.Bits

abbrev Nd := S63
/-- What an operator takes: how many operands, of which kind, and the kind of its result. -/
def need (op : Int) : Int × Int × Int :=
 if op = 1 ∨ op = 2 then (0, 1, 1) else if op = 20 then (0, 2, 2) else if op = 13 then (1, 1, 1) else if op = 19 then (1, 2, 2)
 else if 3 ≤ op ∧ op ≤ 12 then (2, 1, 1) else if 14 ≤ op ∧ op ≤ 16 then (2, 1, 2) else if op = 17 ∨ op = 18 then (2, 2, 2) else (0, 0, 0)
theorem isVars_val (a : Int) : impl_isVars.f a = some (decide (1 ≤ a ∧ a ≤ 4)) := by
 unfold impl_isVars.f
 by_cases h : a ≥ 1
 ·rw [if_pos h]; simp [show 1 ≤ a from h]
 ·rw [if_neg h]; simp [show ¬ 1 ≤ a from h]
theorem need_spec (k : Nat) (op : Int) (hk : 3 < k) : spec_l2Need.f k op = some (need op) := by
 obtain ⟨k, rfl⟩ : ∃ m, k = m + 1 := ⟨k - 1, by omega⟩
 unfold spec_l2Need.f need
 by_cases h1 : op = 1
 ·simp [h1, spec_l2Need.j0]
 ·by_cases h2 : op = 2
  ·simp [h2, spec_l2Need.j0]
  ·have hb : (op == 2) = false := by simpa using h2
   rw [if_neg h1, hb, if_neg (by omega)]
   simp only [spec_l2Need.j0]
   rw [if_neg (by decide)]
   by_cases h3 : op = 20
   ·simp [h3]
   ·rw [if_neg h3, if_neg h3]
    by_cases h4 : op = 13
    ·simp [h4]
    ·rw [if_neg h4, if_neg h4]
     by_cases h5 : op = 19
     ·simp [h5]
     ·rw [if_neg h5, if_neg h5, l1In_val, l1In_val]
      simp only [Option.bind_some, decide_eq_true_eq]
      by_cases h6 : 3 ≤ op ∧ op ≤ 12
      ·rw [if_pos h6, if_pos h6]
      ·rw [if_neg h6, if_neg h6]
       by_cases h7 : 14 ≤ op ∧ op ≤ 16
       ·rw [if_pos h7, if_pos h7]
       ·rw [if_neg h7, if_neg h7]
        by_cases h8 : op = 17
        ·simp [h8]
        ·by_cases h9 : op = 18
         ·simp [h9]
         ·rw [if_neg h8, if_neg h9, if_neg (by omega)]
/-- The program's own table: of a leaf the operands' kind is 0. -/
def needI (op : Int) : Int × Int × Int :=
 if op = 1 ∨ op = 2 then (0, 0, 1) else if op = 20 then (0, 0, 2) else if op = 13 then (1, 1, 1) else if op = 19 then (1, 2, 2)
 else if 3 ≤ op ∧ op ≤ 12 then (2, 1, 1) else if 14 ≤ op ∧ op ≤ 16 then (2, 1, 2) else if op = 17 ∨ op = 18 then (2, 2, 2) else (0, 0, 0)
theorem needI_eq (op : Int) : (needI op).1 = (need op).1 ∧ (needI op).2.2 = (need op).2.2 ∧ ((need op).1 ≠ 0 → (needI op).2.1 = (need op).2.1) := by
 unfold needI need; (repeat' split) <;> simp
theorem need_impl (k : Nat) (op : Int) (hk : 3 < k) : impl_operandsOf.f k op = some (needI op) := by
 obtain ⟨k, rfl⟩ : ∃ m, k = m + 3 := ⟨k - 3, by omega⟩
 unfold impl_operandsOf.f needI
 by_cases h1 : op = 1
 ·simp [h1, impl_operandsOf.j0]
 ·by_cases h2 : op = 2
  ·simp [h2, impl_operandsOf.j0]
  ·have hb : (op == 2) = false := by simpa using h2
   rw [if_neg h1, hb, if_neg (by omega)]
   simp only [impl_operandsOf.j0]
   rw [if_neg (by decide)]
   by_cases h3 : op = 20
   ·simp [h3]
   ·rw [if_neg h3, if_neg h3]
    by_cases h4 : op = 13
    ·simp [h4]
    ·rw [if_neg h4, if_neg h4]
     by_cases h5 : op = 19
     ·simp [h5]
     ·rw [if_neg h5, if_neg h5]
      have e1 : (if op ≥ 3 then impl_operandsOf.j1 (k + 2) op (decide (op ≤ 12)) else impl_operandsOf.j1 (k + 2) op false) = impl_operandsOf.j1 (k + 2) op (decide (3 ≤ op ∧ op ≤ 12)) := by
       by_cases h : op ≥ 3
       ·rw [if_pos h]; congr 1; simp [show 3 ≤ op from h]
       ·rw [if_neg h]; congr 1; simp [show ¬ 3 ≤ op from h]
      rw [e1]
      simp only [impl_operandsOf.j1, decide_eq_true_eq]
      by_cases h6 : 3 ≤ op ∧ op ≤ 12
      ·rw [if_pos h6, if_pos h6]
      ·rw [if_neg h6, if_neg h6]
       have e2 : (if op ≥ 14 then impl_operandsOf.j2 (k + 1) op (decide (op ≤ 16)) else impl_operandsOf.j2 (k + 1) op false) = impl_operandsOf.j2 (k + 1) op (decide (14 ≤ op ∧ op ≤ 16)) := by
        by_cases h : op ≥ 14
        ·rw [if_pos h]; congr 1; simp [show 14 ≤ op from h]
        ·rw [if_neg h]; congr 1; simp [show ¬ 14 ≤ op from h]
       rw [e2]
       simp only [impl_operandsOf.j2, decide_eq_true_eq]
       by_cases h7 : 14 ≤ op ∧ op ≤ 16
       ·rw [if_pos h7, if_pos h7]
       ·rw [if_neg h7, if_neg h7]
        by_cases h8 : op = 17
        ·simp [h8]
        ·by_cases h9 : op = 18
         ·simp [h9]
         ·rw [if_neg h8, if_neg h9, if_neg (by omega)]
theorem need_range (op : Int) : 0 ≤ (need op).1 ∧ (need op).1 ≤ 2 ∧ 0 ≤ (need op).2.2 ∧ (need op).2.2 ≤ 2 ∧ 0 ≤ (need op).2.1 ∧ (need op).2.1 ≤ 2 := by
 unfold need; (repeat' split) <;> decide
theorem need_is (op : Int) : ∃ m p r, need op = (m, p, r) ∧ 0 ≤ m ∧ m ≤ 2 ∧ 0 ≤ r ∧ r ≤ 2 ∧ 0 ≤ p ∧ p ≤ 2 :=
 ⟨(need op).1, (need op).2.1, (need op).2.2, rfl, need_range op⟩
attribute [irreducible] need needI
/-- Does a node's number fit its operator? -/
def leafB (w v : Int) (x : Nd) : Bool :=
 if x.f0 = 1 then decide (word w x.f1) else if x.f0 = 2 then decide (x.f1 < v) else if x.f0 = 20 then decide (x.f1 ≤ 1) else decide (x.f1 = 0)
theorem leaf_spec (k : Nat) (w v a b : Int) (hk : 65 < k) (hv0 : 0 ≤ v) (hv : v ≤ 4) (h0 : 0 ≤ b) (h1 : b < 18446744073709551616) : spec_l2N.f k w v a b = some (leafB w v ⟨a, b⟩) := by
 unfold spec_l2N.f leafB
 by_cases h2 : a = 1
 ·rw [if_pos h2, if_pos h2, goodWord_spec k w b hk h0 h1]; rfl
 ·rw [if_neg h2, if_neg h2, u64_id v hv0 (by omega)]
  by_cases h3 : a = 2
  ·rw [if_pos h3, if_pos h3]
  ·rw [if_neg h3, if_neg h3]
   by_cases h4 : a = 20
   ·rw [if_pos h4, if_pos h4]; congr 1; rw [Bool.eq_iff_iff]; simp only [decide_eq_true_eq]; omega
   ·rw [if_neg h4, if_neg h4]; first | done | rfl | (congr 1; first | done | rfl | (rw [Bool.eq_iff_iff]; simp))
theorem leaf_impl (w v a b : Int) (hv0 : 0 ≤ v) (hv : v ≤ 4) (h0 : 0 ≤ b) : impl_isLeafRight.f w v a b = some (leafB w v ⟨a, b⟩) := by
 unfold impl_isLeafRight.f leafB
 by_cases h2 : a = 1
 ·rw [if_pos h2, if_pos h2, goodWord_impl w b h0]; rfl
 ·rw [if_neg h2, if_neg h2, u64_id v hv0 (by omega)]
  by_cases h3 : a = 2
  ·rw [if_pos h3, if_pos h3]
  ·rw [if_neg h3, if_neg h3]
   by_cases h4 : a = 20
   ·rw [if_pos h4, if_pos h4]
   ·rw [if_neg h4, if_neg h4]; first | done | rfl | (congr 1; first | done | rfl | (rw [Bool.eq_iff_iff]; simp))
/-- One node over the stack of kinds; the top is the list's head. -/
def stepK (w v : Int) (st : List Int) (x : Nd) : Option (List Int) :=
 if (need x.f0).2.2 = 0 then none else if leafB w v x = true then
  if (st.length : Int) < (need x.f0).1 then none else if (st.take (need x.f0).1.toNat).all (fun y => y == (need x.f0).2.1) = true then some ((need x.f0).2.2 :: st.drop (need x.f0).1.toNat) else none
 else none
def runK (w v : Int) : List Nd → List Int → Option (List Int)
 | [], st => some st
 | x :: t, st => (stepK w v st x).bind (runK w v t)
theorem rd_last (st : List Int) (a : Int) : rd ((a :: st).reverse) (((a :: st).reverse.length : Int) - 1) = a := by
 have : (((a :: st).reverse.length : Int) - 1).toNat = st.length := by simp
 unfold rd
 rw [this]
 simp [List.getD]
theorem take_last (st : List Int) (a : Int) (n : Nat) (h : n = st.length) : (a :: st).reverse.take n = st.reverse := by
 subst h
 rw [List.reverse_cons, List.take_left' (by simp)]
/-- The reference pops one part after another. -/
theorem spec_pop (w v part own : Int) (t : List Nd) (n i : Int) (m : Nat) : ∀ (st : List Int) (k : Nat), m ≤ st.length → st.length ≤ 48 → (m : Int) ≤ 2 → m + 1 < k →
  ∃ k', k ≤ k' + m + 1 ∧ spec_l2Kind.l1 k w v st.reverse m part own t n i =
   if (st.take m).all (fun y => y == part) = true then spec_l2Kind.l0 k' w v ((st.drop m).reverse ++ [own]) t n (wrap64 (i + 1)) else some 0 := by
 induction m with
 | zero =>
  intro st k hm hl h2 hk
  obtain ⟨k, rfl⟩ : ∃ m, k = m + 1 := ⟨k - 1, by omega⟩
  refine ⟨k, by omega, ?_⟩
  simp only [spec_l2Kind.l1]
  rewrite [if_neg (by omega), if_pos (by simp; omega)]
  simp
 | succ m ih =>
  intro st k hm hl h2 hk
  obtain ⟨k, rfl⟩ : ∃ m, k = m + 1 := ⟨k - 1, by omega⟩
  obtain ⟨a, st, rfl⟩ : ∃ a s, st = a :: s := by cases st with | nil => simp at hm | cons a s => exact ⟨a, s, rfl⟩
  have hlen : ((a :: st).reverse.length : Int) = (st.length : Int) + 1 := by simp
  simp only [List.length_cons] at hm hl
  have e1 : wrap64 (((a :: st).reverse.length : Int) - 1) = ((a :: st).reverse.length : Int) - 1 := wrap64_id _ (by omega) (by omega)
  have e2 : wrap64 (((m + 1 : Nat) : Int) - 1) = (m : Int) := by rw [wrap64_id _ (by omega) (by omega)]; omega
  have e3 : (a :: st).reverse.take (((a :: st).reverse.length : Int) - 1).toNat = st.reverse := take_last st a _ (by omega)
  obtain ⟨k', hk', he⟩ := ih st k (by omega) (by omega) (by omega) (by omega)
  refine ⟨k', by omega, ?_⟩
  simp only [spec_l2Kind.l1]
  rewrite [e1, rd_last, if_pos (by omega), if_pos (by omega), if_pos (by omega), e2]
  by_cases h : a = part
  ·rewrite [if_pos h, if_pos (by omega), e3, he]
   simp [h]
  ·rewrite [if_neg h, if_neg (by simp [h])]
   rfl
def okNodes (t : List Nd) : Prop := ∀ x ∈ t, 0 ≤ x.f1 ∧ x.f1 < 18446744073709551616
theorem rd_at {t : List Nd} {i : Nat} (h : i < t.length) : rd_T63 t (i : Int) = t[i] := by
 unfold rd_T63
 rw [Int.toNat_natCast, List.getD_eq_getElem?_getD, List.getElem?_eq_getElem h]; rfl
def top (r : Option (List Int)) : Int := match r with
 | some [x] => x
 | _ => 0
theorem spec_l2Kind_loop (w v : Int) (t : List Nd) (hok : okNodes t) (hv0 : 0 ≤ v) (hv : v ≤ 4) (ht : t.length ≤ 48) (d : Nat) : ∀ (i : Nat) (st : List Int) (k : Nat), i + d = t.length → st.length ≤ i → 5 * d + 70 < k →
  spec_l2Kind.l0 k w v st.reverse t (t.length : Int) (i : Int) = some (top (runK w v (t.drop i) st)) := by
 induction d with
 | zero =>
  intro i st k hi hs hk
  obtain ⟨k, rfl⟩ : ∃ m, k = m + 1 := ⟨k - 1, by omega⟩
  simp only [spec_l2Kind.l0]
  rewrite [if_neg (by omega), List.drop_eq_nil_of_le (by omega)]
  simp only [runK, List.length_reverse]
  match st with
  | [] => simp [top]
  | [a] => simp [top, rd]
  | a :: b :: s => rewrite [if_neg (by simp only [List.length_cons]; omega)]; rfl
 | succ d ih =>
  intro i st k hi hs hk
  obtain ⟨k, rfl⟩ : ∃ m, k = m + 2 := ⟨k - 2, by omega⟩
  have hit : i < t.length := by omega
  have q0 : (0 : Int) ≤ (i : Int) := by omega
  have q1 : (i : Int) < (t.length : Int) := by omega
  have q2 : 3 < k + 1 := by omega
  have q3 : 65 < k + 1 := by omega
  have q4 : i + 1 + d = t.length := by omega
  have q5 : st.length ≤ 48 := by omega
  have e1 : wrap64 ((i : Int) + 1) = ((i + 1 : Nat) : Int) := by rw [wrap64_id _ (by omega) (by omega)]; omega
  have hx := hok t[i] (List.getElem_mem hit)
  obtain ⟨mm, pp, rr, hn, b0, b1, b2, b3, b4, b5⟩ := need_is t[i].f0
  have hdrop : t.drop i = t[i] :: t.drop (i + 1) := List.drop_eq_getElem_cons hit
  simp only [spec_l2Kind.l0]
  rewrite [if_pos q1, if_pos q0, if_pos q1, rd_at hit, need_spec _ _ q2, hn]
  simp only [Option.bind_some]
  rewrite [hdrop]
  simp only [runK]
  unfold stepK
  simp only [hn]
  clear hdrop
  by_cases h0 : rr = 0
  ·rewrite [if_pos h0, if_pos h0]
   simp only [spec_l2Kind.j2, if_true]
   rfl
  ·rewrite [if_neg h0, if_neg h0, leaf_spec _ w v _ _ q3 hv0 hv hx.1 hx.2]
   clear hx
   simp only [Option.bind_some]
   by_cases h1 : leafB w v t[i] = true
   ·rewrite [if_pos h1, if_pos h1]
    simp only [spec_l2Kind.j2, List.length_reverse]
    by_cases h2 : (st.length : Int) < mm
    ·rewrite [if_pos (by simpa using h2), if_pos h2]
     rfl
    ·rewrite [if_neg (by simpa using h2), if_neg h2]
     obtain ⟨m, hm⟩ := Int.eq_ofNat_of_zero_le b0
     rw [hm]
     have hm2 : (m : Int) ≤ 2 := by omega
     obtain ⟨k', hk', he⟩ := spec_pop w v pp rr t (t.length : Int) (i : Int) m st k (by omega) q5 hm2 (by omega)
     rewrite [he, Int.toNat_natCast, e1]
     by_cases h3 : (st.take m).all (fun y => y == pp) = true
     ·rewrite [if_pos h3, if_pos h3]
      have := ih (i + 1) (rr :: st.drop m) k' q4 (by simp only [List.length_cons, List.length_drop]; omega) (by omega)
      rw [List.reverse_cons] at this
      rw [this]
      rfl
     ·rewrite [if_neg h3, if_neg h3]
      rfl
   ·rewrite [if_neg h1, if_neg h1]
    simp only [spec_l2Kind.j2, if_true]
    rfl
/-- The kind of a good term, else 0. -/
def kindT (w v : Int) (t : List Nd) : Int :=
 if 1 ≤ w ∧ w ≤ 64 ∧ 1 ≤ v ∧ v ≤ 4 ∧ 1 ≤ t.length ∧ t.length ≤ 48 then top (runK w v t []) else 0
theorem l2Kind_val (k : Nat) (w v : Int) (t : List Nd) (hok : okNodes t) (hk : 400 < k) : spec_l2Kind.f k w v t = some (kindT w v t) := by
 obtain ⟨k, rfl⟩ : ∃ m, k = m + 1 := ⟨k - 1, by omega⟩
 unfold spec_l2Kind.f kindT
 rw [l1Wide_val, l1In_val, l1In_val]
 simp only [Option.bind_some, decide_eq_true_eq, spec_l2Kind.j0]
 by_cases h1 : 1 ≤ w ∧ w ≤ 64
 ·rewrite [if_pos h1]
  by_cases h2 : 1 ≤ v ∧ v ≤ 4
  ·rewrite [if_pos h2]
   by_cases h3 : 1 ≤ (t.length : Int) ∧ (t.length : Int) ≤ 48
   ·rewrite [if_neg (by simp [h3]), if_pos (by omega)]
    have := spec_l2Kind_loop w v t hok (by omega) h2.2 (by omega) t.length 0 [] k (by omega) (by simp) (by omega)
    simpa using this
   ·rewrite [if_pos (by rw [decide_eq_false h3]; rfl), if_neg (by omega)]
    rfl
  ·rewrite [if_neg h2, if_pos trivial, if_neg (by omega)]
   rfl
 ·rewrite [if_neg h1, if_pos trivial, if_neg (by omega)]
  rfl
theorem goodTerm_spec (k : Nat) (w v : Int) (t : List Nd) (hok : okNodes t) (hk : 400 < k) : spec_GoodTerm.f k w v t = some (decide (kindT w v t > 0)) := by
 unfold spec_GoodTerm.f
 rw [l2Kind_val k w v t hok hk]
 rfl
theorem drop_rev (st : List Int) (m : Nat) (h : m ≤ st.length) : st.reverse.drop (st.length - m) = (st.take m).reverse := by
 rw [List.drop_reverse]; congr 2; omega
theorem take_rev (st : List Int) (m : Nat) (h : m ≤ st.length) : st.reverse.take (st.length - m) = (st.drop m).reverse := by
 rw [List.take_reverse]; congr 2; omega
theorem any_ne_all (l : List Int) (p : Int) : (l.reverse.any fun x => x != p) = !(l.all fun y => y == p) := by
 rw [List.any_reverse, List.not_all_eq_any_not]
 rfl
/-- The program's verdict: one value remains. -/
def oneLeft (r : Option (List Int)) : Bool := match r with
 | some [_] => true
 | _ => false
theorem impl_GoodTerm_loop (w v : Int) (t : List Nd) (hok : okNodes t) (hv0 : 0 ≤ v) (hv : v ≤ 4) (ht : t.length ≤ 48) (d : Nat) : ∀ (i : Nat) (st : List Int) (k : Nat), i + d = t.length → st.length ≤ i → d + 10 < k →
  impl_GoodTerm.l0 k w v st.reverse t (t.length : Int) (i : Int) = some (oneLeft (runK w v (t.drop i) st)) := by
 induction d with
 | zero =>
  intro i st k hi hs hk
  obtain ⟨k, rfl⟩ : ∃ m, k = m + 1 := ⟨k - 1, by omega⟩
  simp only [impl_GoodTerm.l0]
  rw [if_neg (by omega), List.drop_eq_nil_of_le (by omega)]
  simp only [runK, List.length_reverse]
  match st with
  | [] => rfl
  | [a] => rfl
  | a :: b :: s => simp only [List.length_cons, oneLeft, Option.some.injEq]; rw [beq_eq_false_iff_ne]; omega
 | succ d ih =>
  intro i st k hi hs hk
  obtain ⟨k, rfl⟩ : ∃ m, k = m + 1 := ⟨k - 1, by omega⟩
  have hit : i < t.length := by omega
  have q0 : (0 : Int) ≤ (i : Int) := by omega
  have q1 : (i : Int) < (t.length : Int) := by omega
  have q2 : 3 < k := by omega
  have q4 : i + 1 + d = t.length := by omega
  have q5 : st.length ≤ 48 := by omega
  have e1 : wrap64 ((i : Int) + 1) = ((i + 1 : Nat) : Int) := by rw [wrap64_id _ (by omega) (by omega)]; omega
  have hx := hok t[i] (List.getElem_mem hit)
  obtain ⟨mm, pp, rr, hn, b0, b1, b2, b3, b4, b5⟩ := need_is t[i].f0
  obtain ⟨n1, n2, n3⟩ := needI_eq t[i].f0
  rw [hn] at n1 n2 n3
  simp only at n1 n2 n3
  have hdrop : t.drop i = t[i] :: t.drop (i + 1) := List.drop_eq_getElem_cons hit
  simp only [impl_GoodTerm.l0]
  rewrite [if_pos q1, if_pos q0, if_pos q1, rd_at hit, need_impl _ _ q2]
  simp only [Option.bind_some]
  rewrite [n1, n2, hdrop]
  simp only [runK]
  unfold stepK
  simp only [hn]
  clear hdrop n1 n2 hn
  by_cases h0 : rr = 0
  ·rewrite [if_pos h0, if_pos h0]
   rfl
  ·rewrite [if_neg h0, if_neg h0, leaf_impl w v _ _ hv0 hv hx.1]
   clear hx
   simp only [Option.bind_some]
   by_cases h1 : leafB w v t[i] = true
   ·rewrite [if_pos h1, if_pos h1]
    clear h1
    have hl : (st.reverse.length : Int) = (st.length : Int) := by simp
    obtain ⟨m, hm⟩ := Int.eq_ofNat_of_zero_le b0
    subst hm
    have e2 : wrap64 ((st.reverse.length : Int) - (m : Int)) = (st.length : Int) - (m : Int) := by rw [wrap64_id _ (by omega) (by omega), hl]
    rewrite [e2]
    by_cases h2 : (st.length : Int) < (m : Int)
    ·rewrite [if_pos (by omega), if_pos h2]
     rfl
    ·have hms : m ≤ st.length := by omega
     have e3 : ((st.length : Int) - (m : Int)).toNat = st.length - m := by omega
     rewrite [if_neg (by omega), if_pos (by omega), if_pos (by omega), if_neg h2, e3, drop_rev st m hms, take_rev st m hms]
     unfold impl_GoodTerm_any.f
     simp only [Option.bind_some]
     rewrite [any_ne_all, Int.toNat_natCast]
     have hpart : ((st.take m).all fun y => y == (needI t[i].f0).2.1) = ((st.take m).all fun y => y == pp) := by
      by_cases hz : (m : Int) = 0
      ·obtain rfl : m = 0 := by omega
       rfl
      ·rw [n3 hz]
     rewrite [hpart]
     clear hpart n3
     by_cases h3 : (st.take m).all (fun y => y == pp) = true
     ·rewrite [if_neg (by rw [h3]; decide), if_pos h3, if_pos (by simp; omega), e1]
      have := ih (i + 1) (rr :: st.drop m) k q4 (by simp only [List.length_cons, List.length_drop]; omega) (by omega)
      rw [List.reverse_cons] at this
      exact this
     ·rewrite [if_pos (by simpa using h3), if_neg h3]
      rfl
   ·rewrite [if_neg h1, if_neg h1]
    rfl
theorem step_pos (w v : Int) (st : List Int) (x : Nd) (st' : List Int) (h : stepK w v st x = some st') (hs : ∀ y ∈ st, y = 1 ∨ y = 2) : ∀ y ∈ st', y = 1 ∨ y = 2 := by
 obtain ⟨mm, pp, rr, hn, b0, b1, b2, b3, b4, b5⟩ := need_is x.f0
 unfold stepK at h
 rw [hn] at h
 simp only at h
 split at h
 ·cases h
 ·split at h
  ·split at h
   ·cases h
   ·split at h
    ·obtain rfl := Option.some.inj h
     intro y hy
     rcases List.mem_cons.1 hy with rfl | hy
     ·omega
     ·exact hs y (List.mem_of_mem_drop hy)
    ·cases h
  ·cases h
theorem run_pos (w v : Int) (t : List Nd) : ∀ st st', runK w v t st = some st' → (∀ y ∈ st, y = 1 ∨ y = 2) → ∀ y ∈ st', y = 1 ∨ y = 2 := by
 induction t with
 | nil => intro st st' h hs; simp only [runK, Option.some.injEq] at h; subst h; exact hs
 | cons x t ih =>
  intro st st' h hs
  simp only [runK, Option.bind_eq_some_iff] at h
  obtain ⟨s1, h1, h2⟩ := h
  exact ih _ _ h2 (step_pos w v st x s1 h1 hs)
theorem oneLeft_top (w v : Int) (t : List Nd) : oneLeft (runK w v t []) = decide (top (runK w v t []) > 0) := by
 cases h : runK w v t [] with
 | none => rfl
 | some st =>
  have hp := run_pos w v t [] st h (fun y hy => absurd hy (by simp))
  match st with
  | [] => rfl
  | [a] => have := hp a (by simp); show true = decide (a > 0); symm; exact decide_eq_true (by omega)
  | a :: b :: s => rfl
theorem goodTerm_impl (k : Nat) (w v : Int) (t : List Nd) (hok : okNodes t) (hk : 400 < k) : impl_GoodTerm.f k w v t = some (decide (kindT w v t > 0)) := by
 obtain ⟨k, rfl⟩ : ∃ m, k = m + 1 := ⟨k - 1, by omega⟩
 unfold impl_GoodTerm.f kindT
 rw [isWide_val, isVars_val]
 simp only [Option.bind_some, decide_eq_true_eq, impl_GoodTerm.j0]
 by_cases h1 : 1 ≤ w ∧ w ≤ 64
 ·rewrite [if_pos h1]
  by_cases h2 : 1 ≤ v ∧ v ≤ 4
  ·rewrite [if_pos h2]
   by_cases h3 : (t.length : Int) < 1
   ·rewrite [if_pos h3, if_pos trivial, if_neg (by omega)]
    rfl
   ·rewrite [if_neg h3]
    by_cases h4 : (t.length : Int) > 48
    ·rewrite [if_pos h4, if_neg (by omega)]
     rfl
    ·rewrite [if_neg h4, if_pos (by omega)]
     have := impl_GoodTerm_loop w v t hok (by omega) h2.2 (by omega) t.length 0 [] k (by omega) (by simp) (by omega)
     rw [List.drop_zero] at this
     rw [← oneLeft_top]
     exact this
  ·rewrite [if_neg h2, if_pos trivial, if_neg (by omega)]
   rfl
 ·rewrite [if_neg h1, if_pos trivial, if_neg (by omega)]
  rfl
end Go.Proofs.Ytckgeanmljmhfaa.Pure

namespace Go.Proofs.Ytckgeanmljmhfaa.Pure
open Go.RowKit Go.Proofs.Ytckgeanmljmhfaa.X Go.Proofs.YtckgeanmljmhfaaW.PrintWords Go.Proofs.YtckgeanmljmhfaaW.PrintLast Go.Proofs.YtckgeanmljmhfaaW.PrintMore Go.Proofs.Ytckgeanmljmhfaa.Bits
theorem set_mid {α : Type} (a b : List α) (x y : α) (n : Nat) (h : n = a.length) : (a ++ x :: b).set n y = a ++ y :: b := by
 subst h; simp
theorem rdGate_at {t : List S93} {i : Nat} (h : i < t.length) : rd_T93 t (i : Int) = t[i] := by
 unfold rd_T93
 rw [Int.toNat_natCast, List.getD_eq_getElem?_getD, List.getElem?_eq_getElem h]; rfl
theorem rdInt_at {t : List Int} {i : Nat} (h : i < t.length) : rd t (i : Int) = t[i] := by
 unfold rd
 rw [Int.toNat_natCast, List.getD_eq_getElem?_getD, List.getElem?_eq_getElem h]; rfl
abbrev Gt := S93
/-- A wire's number below a bound. -/
def below (w x : Int) : Bool := decide (0 ≤ x) && decide (x < w)
/-- A gate that may have the wire w. -/
def okGate (w : Int) (g : Gt) : Bool :=
 if g.f0 = 1 then below 2 g.f1 && decide (g.f2 = 0)
 else if g.f0 = 2 then below w g.f1 && decide (g.f2 = 0)
 else if 3 ≤ g.f0 ∧ g.f0 ≤ 5 then below w g.f1 && below w g.f2 else false
def okGates : Int → List Gt → Bool
 | _, [] => true
 | w, g :: r => okGate w g && okGates (w + 1) r
def okCirc (n : Int) (g : List Gt) (o : List Int) : Bool :=
 decide (0 ≤ n ∧ n ≤ 16 ∧ g.length ≤ 300 ∧ o.length ≤ 16) && (okGates n g && o.all (below (n + (g.length : Int))))
theorem offWire_eq (w x : Int) : offWire w x = !below w x := by
 unfold offWire below
 by_cases h : x < 0
 ·rw [decide_eq_true h, decide_eq_false (show ¬ (0 ≤ x) by omega)]; rfl
 ·rw [decide_eq_false h, decide_eq_true (show 0 ≤ x by omega)]
  by_cases h2 : x < w
  ·rw [decide_eq_true h2, decide_eq_false (show ¬ (w ≤ x) by omega)]; rfl
  ·rw [decide_eq_false h2, decide_eq_true (show w ≤ x by omega)]; rfl
theorem l1In_below (x w : Int) : spec_l1In.f x 0 (w - 1) = some (below w x) := by
 unfold spec_l1In.f below
 by_cases h : x ≥ 0
 ·rw [if_pos h, decide_eq_true (show 0 ≤ x from h), Bool.true_and]
  congr 1
  exact decide_eq_decide.mpr (by omega)
 ·rw [if_neg h, decide_eq_false (show ¬ (0 ≤ x) from h)]; rfl
theorem wiresBelow_val (l : List Int) (w : Int) : impl_areWiresBelow.f l w = some (l.all (below w)) := by
 unfold impl_areWiresBelow.f impl_areWiresBelow_any.f
 simp only [Option.bind_some]
 congr 1
 induction l with
 | nil => rfl
 | cons x t ih =>
  rw [List.any_cons, List.all_cons, Bool.not_or, ih, offWire_eq, Bool.not_not]
theorem l1All_loop (w : Int) (l : List Int) (hl : l.length ≤ 1048576) (d : Nat) : ∀ (i k : Nat), i + d = l.length → d < k →
  spec_l1All.l0 k 0 (w - 1) l (l.length : Int) (i : Int) = some ((l.drop i).all (below w)) := by
 induction d with
 | zero =>
  intro i k hi hk
  obtain ⟨k, rfl⟩ : ∃ m, k = m + 1 := ⟨k - 1, by omega⟩
  simp only [spec_l1All.l0]
  rw [if_neg (by omega), List.drop_eq_nil_of_le (by omega)]; rfl
 | succ d ih =>
  intro i k hi hk
  obtain ⟨k, rfl⟩ : ∃ m, k = m + 1 := ⟨k - 1, by omega⟩
  have hit : i < l.length := by omega
  have e1 : wrap64 ((i : Int) + 1) = ((i + 1 : Nat) : Int) := by rw [wrap64_id _ (by omega) (by omega)]; omega
  have hd : l.drop i = l[i] :: l.drop (i + 1) := List.drop_eq_getElem_cons hit
  simp only [spec_l1All.l0]
  rewrite [if_pos (by omega), if_pos (by omega), if_pos (by omega), rdInt_at hit, l1In_below, hd, List.all_cons]
  simp only [Option.bind_some]
  cases hb : below w l[i] with
  | false => rewrite [if_neg (by decide)]; rfl
  | true => rewrite [if_pos rfl, e1, ih (i + 1) k (by omega) (by omega)]; rfl
theorem l1All_val (w : Int) (l : List Int) (hl : l.length ≤ 1048576) (k : Nat) (hk : l.length < k) : spec_l1All.f k l 0 (w - 1) = some (l.all (below w)) :=
 l1All_loop w l hl l.length 0 k (by omega) hk
theorem eq0_dec (x : Int) : (x == 0) = decide (x = 0) := rfl
theorem spec_gate (g : Gt) (w : Int) (hw : -1000000 ≤ w) (hw2 : w ≤ 1000000) (k : Nat) (hk : 1 ≤ k) : spec_l4Gate.f k g.f0 g.f1 g.f2 w = some (okGate w g) := by
 obtain ⟨k, rfl⟩ : ∃ m, k = m + 1 := ⟨k - 1, by omega⟩
 have ew : wrap64 (w - 1) = w - 1 := wrap64_id _ (by omega) (by omega)
 have hj : ∀ b, spec_l4Gate.j0 (k + 1) w b g.f0 g.f1 g.f2 = some (b && (below w g.f1 && below w g.f2)) := by
  intro b
  simp only [spec_l4Gate.j0]
  rewrite [ew, l1In_below, l1In_below]
  cases b with
  | false => rfl
  | true =>
   rewrite [if_pos rfl]
   simp only [Option.bind_some]
   cases below w g.f1 <;> rfl
 have e2 : spec_l1In.f g.f1 0 1 = some (below 2 g.f1) := l1In_below g.f1 2
 unfold spec_l4Gate.f okGate
 rewrite [ew, l1In_below, e2]
 simp only [Option.bind_some, hj, eq0_dec]
 by_cases h1 : g.f0 = 1
 ·rewrite [if_pos h1, if_pos h1]
  cases below 2 g.f1 <;> rfl
 ·rewrite [if_neg h1, if_neg h1]
  by_cases h2 : g.f0 = 2
  ·rewrite [if_pos h2, if_pos h2]
   cases below w g.f1 <;> rfl
  ·rewrite [if_neg h2, if_neg h2]
   by_cases h3 : g.f0 = 3
   ·rewrite [if_pos h3, if_pos (by omega), beq_iff_eq.mpr h3]; rfl
   ·rewrite [if_neg h3]
    by_cases h4 : g.f0 = 4
    ·rewrite [if_pos h4, if_pos (by omega), beq_iff_eq.mpr h4]; rfl
    ·rewrite [if_neg h4]
     by_cases h5 : g.f0 = 5
     ·rewrite [if_pos (by omega), beq_iff_eq.mpr h5]; rfl
     ·rewrite [if_neg (by omega), beq_eq_false_iff_ne.mpr h5]; rfl
theorem impl_gate (g : Gt) (w : Int) (k : Nat) (hk : 3 ≤ k) : impl_isGate.f k g.f0 g.f1 g.f2 w = some (okGate w g) := by
 obtain ⟨k, rfl⟩ : ∃ m, k = m + 3 := ⟨k - 3, by omega⟩
 unfold impl_isGate.f okGate
 by_cases ha : g.f0 < 1
 ·rewrite [if_pos ha, if_neg (by omega), if_neg (by omega), if_neg (by omega)]
  simp only [impl_isGate.j0]
  rfl
 ·rewrite [if_neg ha]
  by_cases hb : g.f0 > 5
  ·rewrite [decide_eq_true hb, if_neg (by omega), if_neg (by omega), if_neg (by omega)]
   simp only [impl_isGate.j0]
   rfl
  ·rewrite [decide_eq_false hb]
   simp only [impl_isGate.j0]
   rewrite [if_neg (by decide)]
   by_cases h1 : g.f0 = 1
   ·rewrite [if_pos h1, if_pos h1]
    unfold below
    by_cases h2 : g.f1 < 0
    ·rewrite [if_pos h2, decide_eq_false (show ¬ (0 ≤ g.f1) by omega)]
     simp only [impl_isGate.j1]
     rfl
    ·rewrite [if_neg h2, decide_eq_true (show 0 ≤ g.f1 by omega)]
     by_cases h3 : g.f1 > 1
     ·rewrite [decide_eq_true h3, decide_eq_false (show ¬ (g.f1 < 2) by omega)]
      simp only [impl_isGate.j1]
      rfl
     ·rewrite [decide_eq_false h3, decide_eq_true (show g.f1 < 2 by omega)]
      simp only [impl_isGate.j1]
      rewrite [if_neg (by decide), if_pos (by omega)]
      by_cases h4 : g.f2 = 0
      ·rewrite [decide_eq_true h4, bne_eq_false_iff_eq.mpr h4]
       simp only [impl_isGate.j2]
       rewrite [if_neg (by decide)]
       unfold impl_Gate_uses.f
       rewrite [if_pos h1]
       simp only [Option.bind_some]
       rewrite [wiresBelow_val]
       rfl
      ·rewrite [decide_eq_false h4, bne_iff_ne.mpr h4]
       simp only [impl_isGate.j2]
       rfl
   ·rewrite [if_neg h1, if_neg h1]
    simp only [impl_isGate.j1]
    rewrite [if_neg (by decide)]
    by_cases h2 : g.f0 = 2
    ·rewrite [if_pos (by omega), if_pos h2]
     by_cases h4 : g.f2 = 0
     ·rewrite [decide_eq_true h4, bne_eq_false_iff_eq.mpr h4]
      simp only [impl_isGate.j2]
      rewrite [if_neg (by decide)]
      unfold impl_Gate_uses.f
      rewrite [if_neg h1, if_pos h2]
      simp only [Option.bind_some]
      rewrite [wiresBelow_val]
      rfl
     ·rewrite [decide_eq_false h4, bne_iff_ne.mpr h4, Bool.and_false]
      simp only [impl_isGate.j2]
      rfl
    ·rewrite [if_neg (by omega), if_neg h2, if_pos (by omega)]
     simp only [impl_isGate.j2]
     rewrite [if_neg (by decide)]
     unfold impl_Gate_uses.f
     rewrite [if_neg h1, if_neg h2]
     simp only [Option.bind_some]
     rewrite [wiresBelow_val]
     simp only [List.all_cons, List.all_nil, Bool.and_true]
     rfl
theorem specCirc_loop (n : Int) (h0 : 0 ≤ n) (h1 : n ≤ 16) (g : List Gt) (hg : g.length ≤ 300) (o : List Int) (ho : o.length ≤ 16) (d : Nat) : ∀ (i k : Nat), i + d = g.length → d + 20 < k →
  spec_GoodCircuit.l0 k g (g.length : Int) (i : Int) n g o = some (okGates (n + (i : Int)) (g.drop i) && o.all (below (n + (g.length : Int)))) := by
 induction d with
 | zero =>
  intro i k hi hk
  obtain ⟨k, rfl⟩ : ∃ m, k = m + 1 := ⟨k - 1, by omega⟩
  have ew : wrap64 (n + (g.length : Int)) = n + (g.length : Int) := wrap64_id _ (by omega) (by omega)
  have ew2 : wrap64 (n + (g.length : Int) - 1) = n + (g.length : Int) - 1 := wrap64_id _ (by omega) (by omega)
  simp only [spec_GoodCircuit.l0]
  rewrite [if_neg (by omega), List.drop_eq_nil_of_le (by omega)]
  unfold spec_l4Wires.f
  simp only [Option.bind_some]
  rewrite [ew, ew2, l1All_val _ _ (by omega) _ (by omega)]
  rfl
 | succ d ih =>
  intro i k hi hk
  obtain ⟨k, rfl⟩ : ∃ m, k = m + 1 := ⟨k - 1, by omega⟩
  have hit : i < g.length := by omega
  have e1 : wrap64 ((i : Int) + 1) = ((i + 1 : Nat) : Int) := by rw [wrap64_id _ (by omega) (by omega)]; omega
  have e2 : wrap64 (n + (i : Int)) = n + (i : Int) := wrap64_id _ (by omega) (by omega)
  have e3 : n + (i : Int) + 1 = n + ((i + 1 : Nat) : Int) := by omega
  have hd : g.drop i = g[i] :: g.drop (i + 1) := List.drop_eq_getElem_cons hit
  simp only [spec_GoodCircuit.l0]
  rewrite [if_pos (by omega), if_pos (by omega), if_pos (by omega), rdGate_at hit, e2, spec_gate _ _ (by omega) (by omega) _ (by omega), hd, okGates]
  simp only [Option.bind_some]
  cases hb : okGate (n + (i : Int)) g[i] with
  | false => rewrite [if_neg (by decide)]; rfl
  | true => rewrite [if_pos rfl, e1, ih (i + 1) k (by omega) (by omega), e3]; rfl
theorem implCirc_loop (n : Int) (h0 : 0 ≤ n) (h1 : n ≤ 16) (g : List Gt) (hg : g.length ≤ 300) (o : List Int) (d : Nat) : ∀ (i k : Nat), i + d = g.length → d + 20 < k →
  impl_GoodCircuit.l0 k g (g.length : Int) (i : Int) n g o = some (okGates (n + (i : Int)) (g.drop i) && o.all (below (n + (g.length : Int)))) := by
 induction d with
 | zero =>
  intro i k hi hk
  obtain ⟨k, rfl⟩ : ∃ m, k = m + 1 := ⟨k - 1, by omega⟩
  have ew : wrap64 (n + (g.length : Int)) = n + (g.length : Int) := wrap64_id _ (by omega) (by omega)
  simp only [impl_GoodCircuit.l0]
  rewrite [if_neg (by omega), List.drop_eq_nil_of_le (by omega)]
  unfold impl_Circuit_wires.f
  simp only [Option.bind_some]
  rewrite [ew, wiresBelow_val]
  rfl
 | succ d ih =>
  intro i k hi hk
  obtain ⟨k, rfl⟩ : ∃ m, k = m + 1 := ⟨k - 1, by omega⟩
  have hit : i < g.length := by omega
  have e1 : wrap64 ((i : Int) + 1) = ((i + 1 : Nat) : Int) := by rw [wrap64_id _ (by omega) (by omega)]; omega
  have e2 : wrap64 (n + (i : Int)) = n + (i : Int) := wrap64_id _ (by omega) (by omega)
  have e3 : n + (i : Int) + 1 = n + ((i + 1 : Nat) : Int) := by omega
  have hd : g.drop i = g[i] :: g.drop (i + 1) := List.drop_eq_getElem_cons hit
  simp only [impl_GoodCircuit.l0]
  rewrite [if_pos (by omega), if_pos (by omega), if_pos (by omega), rdGate_at hit, e2, impl_gate _ _ _ (by omega), hd, okGates]
  simp only [Option.bind_some]
  cases hb : okGate (n + (i : Int)) g[i] with
  | false => rewrite [if_neg (by decide)]; rfl
  | true => rewrite [if_pos rfl, e1, ih (i + 1) k (by omega) (by omega), e3]; rfl
theorem okCirc_no (n : Int) (g : List Gt) (o : List Int) (h : ¬ (0 ≤ n ∧ n ≤ 16 ∧ g.length ≤ 300 ∧ o.length ≤ 16)) : okCirc n g o = false := by
 unfold okCirc
 rw [decide_eq_false h]; rfl
theorem specCirc_val (n : Int) (g : List Gt) (o : List Int) (k : Nat) (hk : 400 ≤ k) : spec_GoodCircuit.f k n g o = some (okCirc n g o) := by
 obtain ⟨k, rfl⟩ : ∃ m, k = m + 1 := ⟨k - 1, by omega⟩
 unfold spec_GoodCircuit.f spec_l1In.f
 have hj : ∀ m, spec_GoodCircuit.j0 (m + 1) true n g o = some false := by
  intro m
  simp only [spec_GoodCircuit.j0]
  rfl
 by_cases h0 : n ≥ 0
 ·rewrite [if_pos h0]
  simp only [Option.bind_some]
  by_cases h1 : n ≤ 16
  ·rewrite [decide_eq_true h1, if_pos rfl]
   by_cases h2 : (g.length : Int) > 300
   ·rewrite [if_pos h2, hj, okCirc_no n g o (by omega)]; rfl
   ·rewrite [if_neg h2]
    by_cases h3 : (o.length : Int) > 16
    ·rewrite [decide_eq_true h3, hj, okCirc_no n g o (by omega)]; rfl
    ·rewrite [decide_eq_false h3]
     simp only [spec_GoodCircuit.j0]
     have := specCirc_loop n h0 h1 g (by omega) o (by omega) g.length 0 k (by omega) (by omega)
     rewrite [Int.natCast_zero, Int.add_zero, List.drop_zero] at this
     rewrite [if_neg (by decide), this]
     unfold okCirc
     rewrite [decide_eq_true (show 0 ≤ n ∧ n ≤ 16 ∧ g.length ≤ 300 ∧ o.length ≤ 16 from ⟨h0, h1, by omega, by omega⟩)]
     rfl
  ·rewrite [decide_eq_false h1, if_neg (by decide), hj, okCirc_no n g o (by omega)]; rfl
 ·rewrite [if_neg h0]
  simp only [Option.bind_some]
  rewrite [if_neg (by decide), hj, okCirc_no n g o (by omega)]; rfl
theorem implCirc_val (n : Int) (g : List Gt) (o : List Int) (k : Nat) (hk : 400 ≤ k) : impl_GoodCircuit.f k n g o = some (okCirc n g o) := by
 obtain ⟨k, rfl⟩ : ∃ m, k = m + 1 := ⟨k - 1, by omega⟩
 unfold impl_GoodCircuit.f
 have hj : ∀ m, impl_GoodCircuit.j0 (m + 1) true n g o = some false := by
  intro m
  simp only [impl_GoodCircuit.j0]
  rfl
 by_cases h0 : n < 0
 ·rewrite [if_pos h0, hj, okCirc_no n g o (by omega)]; rfl
 ·rewrite [if_neg h0]
  by_cases h1 : n > 16
  ·rewrite [if_pos h1, hj, okCirc_no n g o (by omega)]; rfl
  ·rewrite [if_neg h1]
   by_cases h2 : (g.length : Int) > 300
   ·rewrite [if_pos h2, hj, okCirc_no n g o (by omega)]; rfl
   ·rewrite [if_neg h2]
    by_cases h3 : (o.length : Int) > 16
    ·rewrite [decide_eq_true h3, hj, okCirc_no n g o (by omega)]; rfl
    ·rewrite [decide_eq_false h3]
     simp only [impl_GoodCircuit.j0]
     have := implCirc_loop n (by omega) (by omega) g (by omega) o g.length 0 k (by omega) (by omega)
     rewrite [Int.natCast_zero, Int.add_zero, List.drop_zero] at this
     rewrite [if_neg (by decide), this]
     unfold okCirc
     rewrite [decide_eq_true (show 0 ≤ n ∧ n ≤ 16 ∧ g.length ≤ 300 ∧ o.length ≤ 16 from ⟨by omega, by omega, by omega, by omega⟩)]
     rfl
theorem below_is {w x : Int} (h : below w x = true) : 0 ≤ x ∧ x < w := by
 unfold below at h
 simpa using h
theorem okCirc_is {n : Int} {g : List Gt} {o : List Int} (h : okCirc n g o = true) : 0 ≤ n ∧ n ≤ 16 ∧ g.length ≤ 300 ∧ o.length ≤ 16 ∧ okGates n g = true ∧ o.all (below (n + (g.length : Int))) = true := by
 unfold okCirc at h
 rw [Bool.and_eq_true, Bool.and_eq_true, decide_eq_true_eq] at h
 exact ⟨h.1.1, h.1.2.1, h.1.2.2.1, h.1.2.2.2, h.2⟩
end Go.Proofs.Ytckgeanmljmhfaa.Pure

namespace Go.Proofs.Ytckgeanmljmhfaa.Pure
open Go.RowKit Go.Proofs.Ytckgeanmljmhfaa.X Go.Proofs.YtckgeanmljmhfaaW.PrintWords Go.Proofs.YtckgeanmljmhfaaW.PrintLast Go.Proofs.Ytckgeanmljmhfaa.Bits

abbrev Nl := S65
def conv (x : Nl) : Nd := ⟨x.f0, x.f1⟩
theorem rdl_at {t : List Nl} {i : Nat} (h : i < t.length) : rd_T65 t (i : Int) = t[i] := by
 unfold rd_T65
 rw [Int.toNat_natCast, List.getD_eq_getElem?_getD, List.getElem?_eq_getElem h]; rfl
theorem sz_val (l : List Nl) (hl : l.length ≤ 9223372036854775807) : laws_szNodeS.f l 1048576 = some (if 1048576 < l.length then -1 else 1048576 - (l.length : Int)) := by
 unfold laws_szNodeS.f
 rw [wrap64_id _ (by omega) (by omega)]
 by_cases h : 1048576 < l.length
 ·rw [if_pos (by omega), if_pos h]
 ·rw [if_neg (by omega), if_neg h]
theorem toNodes_loop (l : List Nl) (hl : l.length ≤ 1048576) (d : Nat) : ∀ (i : Nat) (k : Nat), i + d = l.length → d < k →
  laws_toNodeS.l0 k l ((l.take i).map conv ++ List.replicate d z63) (i : Int) = some (l.map conv) := by
 induction d with
 | zero =>
  intro i k hi hk
  obtain ⟨k, rfl⟩ : ∃ m, k = m + 1 := ⟨k - 1, by omega⟩
  simp only [laws_toNodeS.l0]
  rw [if_neg (by omega), List.take_of_length_le (by omega)]
  simp
 | succ d ih =>
  intro i k hi hk
  obtain ⟨k, rfl⟩ : ∃ m, k = m + 1 := ⟨k - 1, by omega⟩
  have hit : i < l.length := by omega
  have e1 : wrap64 ((i : Int) + 1) = ((i + 1 : Nat) : Int) := by rw [wrap64_id _ (by omega) (by omega)]; omega
  simp only [laws_toNodeS.l0]
  rewrite [if_pos (by omega), if_pos (by omega)]
  unfold laws_toNode.f
  simp only [Option.bind_some]
  rewrite [if_pos (by simp; omega), rdl_at hit, e1, Int.toNat_natCast, List.replicate_succ, set_mid _ _ _ _ _ (by simp; omega)]
  have h2 : (l.take i).map conv ++ (⟨l[i].f0, l[i].f1⟩ : Nd) :: List.replicate d z63 = (l.take (i + 1)).map conv ++ List.replicate d z63 := by
   rw [List.take_add_one, List.getElem?_eq_getElem hit, Option.toList_some, List.map_append, List.append_assoc]
   rfl
  rewrite [h2]
  exact ih (i + 1) k (by omega) (by omega)
theorem toNodes_val (k : Nat) (l : List Nl) (hl : l.length ≤ 1048576) (hk : l.length < k) : laws_toNodeS.f k l = some (l.map conv) := by
 unfold laws_toNodeS.f
 rw [if_pos (by omega), Int.toNat_natCast, if_pos (by omega)]
 have := toNodes_loop l hl l.length 0 k (by omega) hk
 simpa using this
theorem eqNodes_loop (l : List Nd) (hl : l.length ≤ 1048576) (d : Nat) : ∀ (i : Nat) (k : Nat), i + d = l.length → d < k → laws_eqNodeS.l0 k l l (i : Int) = some true := by
 induction d with
 | zero =>
  intro i k hi hk
  obtain ⟨k, rfl⟩ : ∃ m, k = m + 1 := ⟨k - 1, by omega⟩
  simp only [laws_eqNodeS.l0]
  rw [if_neg (by omega)]
 | succ d ih =>
  intro i k hi hk
  obtain ⟨k, rfl⟩ : ∃ m, k = m + 1 := ⟨k - 1, by omega⟩
  have e1 : wrap64 ((i : Int) + 1) = ((i + 1 : Nat) : Int) := by rw [wrap64_id _ (by omega) (by omega)]; omega
  simp only [laws_eqNodeS.l0]
  rewrite [if_pos (by omega), if_pos (by omega), if_pos (by omega)]
  unfold laws_eqNode.f
  rewrite [if_pos rfl, if_pos rfl]
  simp only [Option.bind_some, if_true]
  rewrite [e1]
  exact ih (i + 1) k (by omega) (by omega)
theorem eqNodes_val (k : Nat) (l : List Nd) (hl : l.length ≤ 1048576) (hk : l.length < k) : laws_eqNodeS.f k l l = some true := by
 unfold laws_eqNodeS.f
 rw [if_pos rfl]
 exact eqNodes_loop l hl l.length 0 k (by omega) hk
theorem conv_ok (l : List Nl) (h : ∀ y ∈ l, wf65 y) : okNodes (l.map conv) := by
 intro x hx
 obtain ⟨y, hy, rfl⟩ := List.mem_map.1 hx
 exact wf_u64 (h y hy).2
/-- How many rounds serve every loop over such a list. -/
def rounds (l : List Nl) : Nat := 6 * l.length + 2000
theorem rdNode_at {t : List Nd} {i : Nat} (h : i < t.length) : rd_T63 t (i : Int) = t[i] := rd_at h
end Go.Proofs.Ytckgeanmljmhfaa.Pure

namespace Go.Proofs.Ytckgeanmljmhfaa.Pure
open Go.RowKit Go.Proofs.Ytckgeanmljmhfaa.X Go.Proofs.YtckgeanmljmhfaaW.PrintWords Go.Proofs.YtckgeanmljmhfaaW.PrintLast Go.Proofs.YtckgeanmljmhfaaW.PrintMore Go.Proofs.Ytckgeanmljmhfaa.Bits

theorem twoN_len (ins op : Int) (a b : List Int) (g : List S93) (h : twoOp op = true) (hb : b.length = a.length) (h1 : 1 ≤ a.length) (h4 : a.length ≤ 4) :
  (twoN ins op a b g).1.length ≤ g.length + 110 ∧ (twoN ins op a b g).2.length = if op = 14 ∨ op = 15 ∨ op = 16 then 1 else a.length := by
 have hop : op = 3 ∨ op = 4 ∨ op = 5 ∨ op = 8 ∨ op = 9 ∨ op = 10 ∨ op = 14 ∨ op = 15 ∨ op = 16 ∨ op = 17 ∨ op = 18 := by unfold twoOp at h; simp only [Bool.or_eq_true, beq_iff_eq] at h; omega
 clear h
 rcases hop with rfl | rfl | rfl | rfl | rfl | rfl | rfl | rfl | rfl | rfl | rfl
 ·have := addN_len ins a b (ins + (g.length : Int)) (g ++ [⟨1, 0, 0⟩]) a.length
  rw [List.length_append, List.length_singleton] at this
  unfold twoN
  simp
  omega
 ·have h2 := emitN_len ins (fun i => ⟨2, rd b i, 0⟩) g b.length
  have := addN_len ins a (emitN ins (fun i => ⟨2, rd b i, 0⟩) g b.length).2 (ins + ((emitN ins (fun i => ⟨2, rd b i, 0⟩) g b.length).1.length : Int)) ((emitN ins (fun i => ⟨2, rd b i, 0⟩) g b.length).1 ++ [⟨1, 1, 0⟩]) a.length
  rw [List.length_append, List.length_singleton] at this
  unfold twoN
  simp
  omega
 ·have := mulN_len ins a b g b.length
  have h5 : b.length * (6 * a.length + 1) ≤ 4 * (6 * 4 + 1) := Nat.mul_le_mul (by omega) (by omega)
  unfold twoN
  simp
  omega
 ·have := emitN_len ins (fun i => ⟨3, rd a i, rd b i⟩) g a.length
  unfold twoN
  simp
  omega
 ·have := emitN_len ins (fun i => ⟨4, rd a i, rd b i⟩) g a.length
  unfold twoN
  simp
  omega
 ·have := emitN_len ins (fun i => ⟨5, rd a i, rd b i⟩) g a.length
  unfold twoN
  simp
  omega
 ·have := eqN_len ins a b g a.length
  unfold twoN
  simp
  omega
 ·have := lessN_len ins a b g a.length
  unfold twoN
  simp
  omega
 ·have := lessN_len ins (a.set (a.length - 1) (ins + (g.length : Int))) (b.set (a.length - 1) (ins + (g.length : Int) + 1)) (g ++ [⟨2, rd a ((a.length - 1 : Nat) : Int), 0⟩] ++ [⟨2, rd b ((a.length - 1 : Nat) : Int), 0⟩]) a.length
  rw [List.length_append, List.length_append, List.length_singleton, List.length_singleton] at this
  have e : twoN ins 16 a b g = ((lessN ins (a.set (a.length - 1) (ins + (g.length : Int))) (b.set (a.length - 1) (ins + (g.length : Int) + 1)) (g ++ [⟨2, rd a ((a.length - 1 : Nat) : Int), 0⟩] ++ [⟨2, rd b ((a.length - 1 : Nat) : Int), 0⟩]) a.length).1, [(lessN ins (a.set (a.length - 1) (ins + (g.length : Int))) (b.set (a.length - 1) (ins + (g.length : Int) + 1)) (g ++ [⟨2, rd a ((a.length - 1 : Nat) : Int), 0⟩] ++ [⟨2, rd b ((a.length - 1 : Nat) : Int), 0⟩]) a.length).2]) := by
   unfold twoN
   simp
  rw [e]
  simp only [List.length_singleton]
  exact ⟨by omega, by simp⟩
 ·have := emitN_len ins (fun i => ⟨3, rd a i, rd b i⟩) g a.length
  unfold twoN
  simp
  omega
 ·have := emitN_len ins (fun i => ⟨4, rd a i, rd b i⟩) g a.length
  unfold twoN
  simp
  omega
/-- How many wires a value of a kind has. -/
def kl (wd : Nat) (k : Int) : Nat := if k = 1 then wd else 1
theorem stepK_is {w v m p r : Int} {st st' : List Int} {x : Nd} (h : stepK w v st x = some st') (hn : need x.f0 = (m, p, r)) :
  leafB w v x = true ∧ m ≤ st.length ∧ (∀ y ∈ st.take m.toNat, y = p) ∧ st' = r :: st.drop m.toNat := by
 unfold stepK at h
 rw [hn] at h
 dsimp only at h
 split at h
 ·cases h
 split at h
 ·rename_i hl
  split at h
  ·cases h
  ·rename_i hm
   split at h
   ·rename_i ha
    injection h with h
    exact ⟨hl, by omega, fun y hy => by simpa using List.all_eq_true.mp ha y hy, h.symm⟩
   ·cases h
 ·cases h
theorem gstep_ok (wd : Nat) (v ins : Int) (hw1 : 1 ≤ wd) (hw4 : wd ≤ 4) (hv : v ≤ 4) (x : Nd) (st st' : List Int) (rv : List (List Int)) (g : List S93)
  (h : stepK wd v st x = some st') (hp : notPlain x = false) (hx0 : 0 ≤ x.f1) (hx1 : x.f1 < 18446744073709551616) (hl : rv.map List.length = st.map (kl wd)) (hg : g.length ≤ 700000) (hrv : rv.length ≤ 1000) :
  ∃ g' rv', gstep wd ins x g rv.reverse = some (g', List.reverse rv') ∧ rv'.map List.length = st'.map (kl wd) ∧ g'.length ≤ g.length + 110 ∧ rv'.length ≤ rv.length + 1 := by
 have h0 : (need x.f0).2.2 ≠ 0 := by intro h0; unfold stepK at h; rw [if_pos h0] at h; cases h
 have hnp : x.f0 ≠ 6 ∧ x.f0 ≠ 7 ∧ x.f0 ≠ 11 ∧ x.f0 ≠ 12 := by
  unfold notPlain at hp
  simp only [decide_eq_false_iff_not] at hp
  omega
 have hr : x.f0 = 1 ∨ x.f0 = 2 ∨ x.f0 = 20 ∨ (x.f0 = 13 ∨ x.f0 = 19) ∨ (x.f0 = 3 ∨ x.f0 = 4 ∨ x.f0 = 5 ∨ x.f0 = 8 ∨ x.f0 = 9 ∨ x.f0 = 10 ∨ x.f0 = 14 ∨ x.f0 = 15 ∨ x.f0 = 16 ∨ x.f0 = 17 ∨ x.f0 = 18) := by
  unfold need at h0
  split at h0
  ·omega
  split at h0
  ·omega
  split at h0
  ·omega
  split at h0
  ·omega
  split at h0
  ·omega
  split at h0
  ·omega
  split at h0
  ·omega
  ·exact absurd rfl h0
 have hlim : ¬ (700000 < g.length ∨ 1000 < rv.reverse.length) := by rw [List.length_reverse]; omega
 rcases hr with ho | ho | ho | ho | ho
 ·have hn : need x.f0 = (0, 1, 1) := by rw [ho]; unfold need; simp
  obtain ⟨_, _, _, rfl⟩ := stepK_is h hn
  refine ⟨(emitN ins (fun i => ⟨1, bitv x.f1 i, 0⟩) g wd).1, (emitN ins (fun i => ⟨1, bitv x.f1 i, 0⟩) g wd).2 :: rv, ?_, ?_, ?_, by simp⟩
  ·unfold gstep; rw [if_neg hlim, if_neg (by omega), if_pos ho, if_pos ⟨hx0, hx1⟩, List.reverse_cons]
  ·have := emitN_len ins (fun i => ⟨1, bitv x.f1 i, 0⟩) g wd
   simp only [List.map_cons, hl, this.2, kl, if_true]
   simp
  ·have := emitN_len ins (fun i => ⟨1, bitv x.f1 i, 0⟩) g wd
   omega
 ·have hn : need x.f0 = (0, 1, 1) := by rw [ho]; unfold need; simp
  obtain ⟨hlf, _, _, rfl⟩ := stepK_is h hn
  have hlt : x.f1 < v := by
   unfold leafB at hlf
   rw [if_neg (by omega), if_pos ho] at hlf
   simpa using hlf
  refine ⟨g, varW wd x.f1 wd :: rv, ?_, ?_, by omega, by simp⟩
  ·unfold gstep; rw [if_neg hlim, if_pos ho, if_pos ⟨hx0, by omega⟩, List.reverse_cons]
  ·simp only [List.map_cons, hl, varW_len, kl, if_true]
   simp
 ·have hn : need x.f0 = (0, 2, 2) := by rw [ho]; unfold need; simp
  obtain ⟨_, _, _, rfl⟩ := stepK_is h hn
  refine ⟨(emitN ins (fun i => ⟨1, bitv x.f1 i, 0⟩) g 1).1, (emitN ins (fun i => ⟨1, bitv x.f1 i, 0⟩) g 1).2 :: rv, ?_, ?_, ?_, by simp⟩
  ·unfold gstep; rw [if_neg hlim, if_neg (by omega), if_neg (by omega), if_pos ho, if_pos ⟨hx0, hx1⟩, List.reverse_cons]
  ·have := emitN_len ins (fun i => ⟨1, bitv x.f1 i, 0⟩) g 1
   simp only [List.map_cons, hl, this.2, kl]
   simp
  ·have := emitN_len ins (fun i => ⟨1, bitv x.f1 i, 0⟩) g 1
   omega
 ·have hn : ∃ p, need x.f0 = (1, p, p) := by
   rcases ho with ho | ho <;> rw [ho]
   ·exact ⟨1, by unfold need; simp⟩
   ·exact ⟨2, by unfold need; simp⟩
  obtain ⟨p, hn⟩ := hn
  obtain ⟨_, hm, ha, rfl⟩ := stepK_is h hn
  cases st with
  | nil => simp at hm
  | cons y s =>
   obtain rfl : y = p := ha y (by simp)
   cases rv with
   | nil => simp at hl
   | cons a rr =>
    simp only [List.map_cons, List.cons.injEq] at hl
    have hal : a.length ≤ 4 := by rw [hl.1]; unfold kl; split <;> omega
    refine ⟨(emitN ins (fun i => ⟨2, rd a i, 0⟩) g a.length).1, (emitN ins (fun i => ⟨2, rd a i, 0⟩) g a.length).2 :: rr, ?_, ?_, ?_, by simp⟩
    ·unfold gstep; rw [if_neg hlim, if_neg (by omega), if_neg (by omega), if_neg (by omega), if_pos ho, List.reverse_reverse]
     dsimp only
     rw [if_pos hal, List.reverse_cons]
    ·have := emitN_len ins (fun i => ⟨2, rd a i, 0⟩) g a.length
     simp only [List.map_cons, hl.2]
     rw [this.2, hl.1]
     rfl
    ·have := emitN_len ins (fun i => ⟨2, rd a i, 0⟩) g a.length
     omega
 ·have htwo : twoOp x.f0 = true := by
   rcases ho with ho | ho | ho | ho | ho | ho | ho | ho | ho | ho | ho <;> rw [ho] <;> rfl
  have hn : ∃ p r, need x.f0 = (2, p, r) ∧ (if x.f0 = 14 ∨ x.f0 = 15 ∨ x.f0 = 16 then 1 else kl wd p) = kl wd r := by
   rcases ho with ho | ho | ho | ho | ho | ho | ho | ho | ho | ho | ho <;> rw [ho]
   ·exact ⟨1, 1, by unfold need; simp, by simp⟩
   ·exact ⟨1, 1, by unfold need; simp, by simp⟩
   ·exact ⟨1, 1, by unfold need; simp, by simp⟩
   ·exact ⟨1, 1, by unfold need; simp, by simp⟩
   ·exact ⟨1, 1, by unfold need; simp, by simp⟩
   ·exact ⟨1, 1, by unfold need; simp, by simp⟩
   ·exact ⟨1, 2, by unfold need; simp, by simp [kl]⟩
   ·exact ⟨1, 2, by unfold need; simp, by simp [kl]⟩
   ·exact ⟨1, 2, by unfold need; simp, by simp [kl]⟩
   ·exact ⟨2, 2, by unfold need; simp, by simp⟩
   ·exact ⟨2, 2, by unfold need; simp, by simp⟩
  obtain ⟨p, r, hn, hpr⟩ := hn
  obtain ⟨_, hm, ha, rfl⟩ := stepK_is h hn
  match st, rv, hl, hm, ha with
  | [], _, _, hm, _ => simp at hm
  | [_], _, _, hm, _ => simp at hm
  | y :: z :: s, [], hl, _, _ => simp at hl
  | y :: z :: s, [_], hl, _, _ => simp at hl
  | y :: z :: s, b :: a :: rr, hl, _, ha =>
   obtain rfl : y = p := ha y (by simp)
   obtain rfl : z = y := ha z (by simp)
   simp only [List.map_cons, List.cons.injEq] at hl
   have hbl : b.length = a.length := by rw [hl.1, hl.2.1]
   have hal : 1 ≤ a.length ∧ a.length ≤ 4 := by rw [hl.2.1]; unfold kl; split <;> omega
   have ht := twoN_len ins x.f0 a b g htwo hbl hal.1 hal.2
   have hne := twoOp_ne htwo
   refine ⟨(twoN ins x.f0 a b g).1, (twoN ins x.f0 a b g).2 :: rr, ?_, ?_, ht.1, by simp⟩
   ·unfold gstep; rw [if_neg hlim, if_neg hne.2.1, if_neg hne.1, if_neg hne.2.2.2.2, if_neg (by omega), if_pos htwo, List.reverse_reverse]
    dsimp only
    rw [if_pos ⟨hbl, hal⟩, List.reverse_cons]
   ·simp only [List.map_cons, ht.2, hl.2.1, hl.2.2, hpr]
    rfl
theorem gfold_ok (wd : Nat) (v ins : Int) (hw1 : 1 ≤ wd) (hw4 : wd ≤ 4) (hv : v ≤ 4) (t : List Nd) : ∀ (st st' : List Int) (rv : List (List Int)) (g : List S93),
  runK wd v t st = some st' → t.any notPlain = false → okNodes t → rv.map List.length = st.map (kl wd) → g.length + 110 * t.length ≤ 700000 → rv.length + t.length ≤ 1000 →
  ∃ g' rv', gfold wd ins t (g, rv.reverse) = some (g', List.reverse rv') ∧ rv'.map List.length = st'.map (kl wd) ∧ g'.length ≤ g.length + 110 * t.length := by
 induction t with
 | nil =>
  intro st st' rv g h _ _ hl _ _
  injection h with h
  subst h
  exact ⟨g, rv, rfl, hl, by simp⟩
 | cons x t ih =>
  intro st st' rv g h hp hok hl hg hr
  simp only [List.length_cons] at hg hr
  obtain ⟨s1, h1, h2⟩ := Option.bind_eq_some_iff.mp h
  rw [List.any_cons, Bool.or_eq_false_iff] at hp
  have hx := hok x (by simp)
  obtain ⟨g1, rv1, hs, hl1, hg1, hr1⟩ := gstep_ok wd v ins hw1 hw4 hv x st s1 rv g h1 hp.1 hx.1 hx.2 hl (by omega) (by omega)
  obtain ⟨g2, rv2, hf, hl2, hg2⟩ := ih s1 st' rv1 g1 h2 hp.2 (fun y hy => hok y (by simp [hy])) hl1 (by omega) (by omega)
  refine ⟨g2, rv2, ?_, hl2, by simp only [List.length_cons]; omega⟩
  show (gstep wd ins x g rv.reverse).bind (gfold wd ins t) = _
  rw [hs]
  exact hf
theorem gatesOf_ok (w v : Int) (t : List Nd) (hok : okNodes t) (hk : kindT w v t > 0) (hp : t.any notPlain = false) (hw : 1 ≤ w ∧ w ≤ 4) : ∃ g o, gatesOf w v t = some (w * v, g, o) ∧ g.length ≤ 6000 ∧ o.length ≤ 1000 := by
 unfold kindT at hk
 split at hk
 ·rename_i hc
  obtain ⟨wd, rfl⟩ : ∃ wd : Nat, w = wd := ⟨w.toNat, by omega⟩
  cases hr : runK wd v t [] with
  | none => rw [hr] at hk; exact absurd hk (by decide)
  | some st =>
   rw [hr] at hk
   match st, hk with
   | [], hk => exact absurd hk (by decide)
   | _ :: _ :: _, hk => exact absurd hk (by simp [top])
   | [k], _ =>
    obtain ⟨g, rv, hf, hl, hg⟩ := gfold_ok wd v (wd * v) (by omega) (by omega) (by omega) t [] [k] [] [] hr hp hok rfl (by simp; omega) (by simp; omega)
    match rv, hl with
    | [], hl => simp at hl
    | _ :: _ :: _, hl => simp at hl
    | [o], hl =>
     simp only [List.map_cons, List.map_nil, List.cons.injEq, and_true] at hl
     have hol : o.length ≤ 1000 := by rw [hl]; unfold kl; split <;> omega
     refine ⟨g, o, ?_, by simp at hg; omega, hol⟩
     unfold gatesOf
     rw [if_pos ⟨by omega, by omega, by omega, by omega, by omega⟩, Int.toNat_natCast, show (([] : List S93), ([] : List (List Int))) = ([], List.reverse []) from rfl, hf]
     simp only [Option.bind_some, List.reverse_cons, List.reverse_nil, List.nil_append, if_pos hol]
 ·exact absurd hk (by decide)
theorem isPlainSpec_loop (t : List Nd) (ht : t.length ≤ 48) (d : Nat) : ∀ (i k : Nat), i + d = t.length → d < k →
  spec_IsPlain.l0 k t (t.length : Int) (i : Int) = some (!((t.drop i).any notPlain), true) := by
 induction d with
 | zero =>
  intro i k hi hk
  obtain ⟨k, rfl⟩ : ∃ m, k = m + 1 := ⟨k - 1, by omega⟩
  obtain rfl : i = t.length := by omega
  simp only [spec_IsPlain.l0]
  rw [if_neg (by omega), List.drop_length]
  rfl
 | succ d ih =>
  intro i k hi hk
  obtain ⟨k, rfl⟩ : ∃ m, k = m + 1 := ⟨k - 1, by omega⟩
  have hlt : i < t.length := by omega
  have e1 : wrap64 ((i : Int) + 1) = ((i + 1 : Nat) : Int) := by rw [wrap64_id _ (by omega) (by omega)]; omega
  have hg := rdNode_at hlt
  simp only [spec_IsPlain.l0]
  rw [if_pos (by omega), if_pos (by omega), if_pos (by omega), hg, e1, List.drop_eq_getElem_cons hlt, List.any_cons]
  by_cases h6 : t[i].f0 = 6
  ·rw [if_pos h6, show notPlain t[i] = true from decide_eq_true (by omega)]; rfl
  rw [if_neg h6]
  by_cases h7 : t[i].f0 = 7
  ·rw [if_pos h7, show notPlain t[i] = true from decide_eq_true (by omega)]; rfl
  rw [if_neg h7]
  by_cases h11 : t[i].f0 = 11
  ·rw [if_pos h11, show notPlain t[i] = true from decide_eq_true (by omega)]; rfl
  rw [if_neg h11]
  by_cases h12 : t[i].f0 = 12
  ·rw [if_pos h12, show notPlain t[i] = true from decide_eq_true (by omega)]; rfl
  rw [if_neg h12, show notPlain t[i] = false from decide_eq_false (by omega), Bool.false_or]
  exact ih (i + 1) k (by omega) (by omega)
/-- The circuit of a term, where there is one. -/
def gatesR (w v : Int) (t : List Nd) : Int × List S93 × List Int × Bool :=
 if (1 ≤ w ∧ w ≤ 4) ∧ kindT w v t > 0 ∧ t.any notPlain = false then
  match gatesOf w v t with
  | some s => if okCirc s.1 s.2.1 s.2.2 = true then (s.1, s.2.1, s.2.2, true) else (0, [], [], false)
  | none => (0, [], [], false)
 else (0, [], [], false)
theorem kindT_48 (w v : Int) (t : List Nd) (h : kindT w v t > 0) : t.length ≤ 48 := by
 unfold kindT at h
 split at h
 ·omega
 ·exact absurd h (by decide)
theorem gatesFor_impl (w v : Int) (t : List Nd) (hok : okNodes t) (k : Nat) (hk : 1000 < k) : impl_GatesFor.f k w v t = some (gatesR w v t) := by
 obtain ⟨k, rfl⟩ : ∃ m, k = m + 1 := ⟨k - 1, by omega⟩
 unfold impl_GatesFor.f gatesR
 have hl : impl_isLaid.f w = some (decide (1 ≤ w ∧ w ≤ 4)) := by
  unfold impl_isLaid.f
  by_cases h1 : 1 ≤ w
  ·rw [if_pos h1]; simp [h1]
  ·rw [if_neg h1, decide_eq_false (by omega)]
 rw [hl]
 simp only [Option.bind_some, decide_eq_true_eq]
 by_cases hw : 1 ≤ w ∧ w ≤ 4
 ·rw [if_pos hw, goodTerm_impl (k + 1) w v t hok (by omega)]
  simp only [Option.bind_some, decide_eq_true_eq]
  by_cases hg : kindT w v t > 0
  ·rw [if_pos hg]
   have hp : impl_isPlain.f t = some (!(t.any notPlain)) := rfl
   rw [hp]
   simp only [Option.bind_some, Bool.not_not, impl_GatesFor.j0]
   by_cases hpl : t.any notPlain = true
   ·rw [if_pos hpl, if_neg (by rw [hpl]; simp)]
   ·have hpf : t.any notPlain = false := by simpa using hpl
    obtain ⟨g, o, he, _, _⟩ := gatesOf_ok w v t hok hg hpf hw
    rw [if_neg hpl, if_pos ⟨hw, hg, hpf⟩, he, show impl_gatesFor.f w v t = some (w * v, g, o) from he]
    simp only [Option.bind_some]
    rw [implCirc_val _ _ _ _ (by omega)]
    simp only [Option.bind_some]
    split <;> rfl
  ·rw [if_neg hg, if_neg (by simp [hg])]
   rfl
 ·rw [if_neg hw, if_neg (by simp [hw])]
  rfl
theorem gatesFor_spec (w v : Int) (t : List Nd) (hok : okNodes t) (k : Nat) (hk : 1000 < k) : spec_GatesFor.f k w v t = some (gatesR w v t) := by
 obtain ⟨k, rfl⟩ : ∃ m, k = m + 1 := ⟨k - 1, by omega⟩
 unfold spec_GatesFor.f spec_IsPlain.f gatesR
 rw [goodTerm_spec (k + 1) w v t hok (by omega)]
 simp only [Option.bind_some, decide_eq_true_eq]
 by_cases hg : kindT w v t > 0
 ·have h48 := kindT_48 w v t hg
  have hs := isPlainSpec_loop t h48 t.length 0 (k + 1) (by omega) (by omega)
  rw [Int.ofNat_zero] at hs
  rw [if_pos hg, hs, List.drop_zero]
  simp only [Option.bind_some, if_true, Bool.not_eq_true']
  by_cases hpl : t.any notPlain = false
  ·have hl : spec_l5Wide.f w = some (decide (1 ≤ w ∧ w ≤ 4)) := by unfold spec_l5Wide.f; rw [l1In_val]; rfl
   rw [if_pos hpl, hl]
   simp only [Option.bind_some, spec_GatesFor.j0]
   by_cases hw : 1 ≤ w ∧ w ≤ 4
   ·obtain ⟨g, o, he, _, _⟩ := gatesOf_ok w v t hok hg hpl hw
    rw [if_neg (by simp [hw]), if_pos ⟨hw, hg, hpl⟩, he, show spec_l5Gates.f w v t = some (w * v, g, o) from he]
    simp only [Option.bind_some]
    rw [specCirc_val _ _ _ _ (by omega)]
    simp only [Option.bind_some]
    split <;> rfl
   ·rw [if_pos (by rw [decide_eq_false hw]; rfl), if_neg (by simp [hw])]
  ·rw [if_neg hpl, if_neg (by simp [hpl])]
   rfl
 ·rw [if_neg hg]
  simp only [Option.bind_some]
  rw [if_neg (by simp), if_neg (by simp [hg])]
  rfl
end Go.Proofs.Ytckgeanmljmhfaa.Pure

namespace Go.Proofs.Ytckgeanmljmhfaa.Pure
open Go.RowKit Go.Proofs.Ytckgeanmljmhfaa.X Go.Proofs.YtckgeanmljmhfaaW.PrintWords Go.Proofs.YtckgeanmljmhfaaW.PrintLast Go.Proofs.YtckgeanmljmhfaaW.PrintMore Go.Proofs.Ytckgeanmljmhfaa.Bits
theorem rdUint64_at {t : List Int} {i : Nat} (h : i < t.length) : rd t (i : Int) = t[i] := by
 unfold rd
 rw [Int.toNat_natCast, List.getD_eq_getElem?_getD, List.getElem?_eq_getElem h]; rfl
theorem toUint64_loop (l : List Int) (hl : l.length ≤ 1048576) (d : Nat) : ∀ (i : Nat) (k : Nat), i + d = l.length → d < k →
  laws_toUint64S.l0 k l ((l.take i) ++ List.replicate d 0) (i : Int) = some (l) := by
 induction d with
 | zero =>
  intro i k hi hk
  obtain ⟨k, rfl⟩ : ∃ m, k = m + 1 := ⟨k - 1, by omega⟩
  simp only [laws_toUint64S.l0]
  rw [if_neg (by omega), List.take_of_length_le (by omega)]
  simp
 | succ d ih =>
  intro i k hi hk
  obtain ⟨k, rfl⟩ : ∃ m, k = m + 1 := ⟨k - 1, by omega⟩
  have hit : i < l.length := by omega
  have e1 : wrap64 ((i : Int) + 1) = ((i + 1 : Nat) : Int) := by rw [wrap64_id _ (by omega) (by omega)]; omega
  simp only [laws_toUint64S.l0]
  rewrite [if_pos (by omega), if_pos (by omega)]
  rewrite [if_pos (by simp; omega), rdUint64_at hit, e1, Int.toNat_natCast, List.replicate_succ, set_mid _ _ _ _ _ (by simp; omega)]
  have h2 : (l.take i) ++ l[i] :: List.replicate d 0 = (l.take (i + 1)) ++ List.replicate d 0 := by
   rw [List.take_add_one, List.getElem?_eq_getElem hit, Option.toList_some, List.append_assoc]
   rfl
  rewrite [h2]
  exact ih (i + 1) k (by omega) (by omega)
theorem toUint64_val (k : Nat) (l : List Int) (hl : l.length ≤ 1048576) (hk : l.length < k) : laws_toUint64S.f k l = some (l) := by
 unfold laws_toUint64S.f
 rw [if_pos (by omega), Int.toNat_natCast, if_pos (by omega)]
 have := toUint64_loop l hl l.length 0 k (by omega) hk
 simpa using this
theorem eqUint64_loop (l : List Int) (hl : l.length ≤ 1048576) (d : Nat) : ∀ (i : Nat) (k : Nat), i + d = l.length → d < k → laws_eqUint64S.l0 k l l (i : Int) = some true := by
 induction d with
 | zero =>
  intro i k hi hk
  obtain ⟨k, rfl⟩ : ∃ m, k = m + 1 := ⟨k - 1, by omega⟩
  simp only [laws_eqUint64S.l0]
  rw [if_neg (by omega)]
 | succ d ih =>
  intro i k hi hk
  obtain ⟨k, rfl⟩ : ∃ m, k = m + 1 := ⟨k - 1, by omega⟩
  have e1 : wrap64 ((i : Int) + 1) = ((i + 1 : Nat) : Int) := by rw [wrap64_id _ (by omega) (by omega)]; omega
  simp only [laws_eqUint64S.l0]
  rewrite [if_pos (by omega), if_pos (by omega), if_pos (by omega)]
  rewrite [if_pos trivial]
  rewrite [e1]
  exact ih (i + 1) k (by omega) (by omega)
theorem eqUint64_val (k : Nat) (l : List Int) (hl : l.length ≤ 1048576) (hk : l.length < k) : laws_eqUint64S.f k l l = some true := by
 unfold laws_eqUint64S.f
 rw [if_pos rfl]
 exact eqUint64_loop l hl l.length 0 k (by omega) hk
/-- What a gate puts on its wire. -/
def gateVal (out : List Bool) (g : Gt) : Bool :=
 if g.f0 = 1 then g.f1 == 1 else if g.f0 = 2 then !(rdOf false out g.f1)
 else if g.f0 = 3 then (if rdOf false out g.f1 = true then rdOf false out g.f2 else false)
 else if g.f0 = 4 then (if rdOf false out g.f1 = true then true else rdOf false out g.f2)
 else rdOf false out g.f1 != rdOf false out g.f2
def runW : List Gt → List Bool → List Bool
 | [], out => out
 | g :: r, out => runW r (out ++ [gateVal out g])
theorem runW_len (g : List Gt) : ∀ out, (runW g out).length = out.length + g.length := by
 induction g with
 | nil => intro out; rfl
 | cons x t ih => intro out; rw [runW, ih]; simp; omega
theorem okGate_cases {w : Int} {g : Gt} (h : okGate w g = true) : g.f0 = 1 ∨ (g.f0 = 2 ∧ 0 ≤ g.f1 ∧ g.f1 < w) ∨ ((g.f0 = 3 ∨ g.f0 = 4 ∨ g.f0 = 5) ∧ 0 ≤ g.f1 ∧ g.f1 < w ∧ 0 ≤ g.f2 ∧ g.f2 < w) := by
 unfold okGate at h
 split at h
 ·rename_i h1; exact .inl h1
 ·split at h
  ·rename_i h2
   rw [Bool.and_eq_true] at h
   have := below_is h.1
   exact .inr (.inl ⟨h2, this⟩)
  ·split at h
   ·rename_i h3
    rw [Bool.and_eq_true] at h
    have h4 := below_is h.1
    have h5 := below_is h.2
    exact .inr (.inr ⟨by omega, h4.1, h4.2, h5⟩)
   ·cases h
theorem run_spec_loop (g : List Gt) (hg : g.length ≤ 300) (n : Nat) (hn : n ≤ 16) (d : Nat) : ∀ (i k : Nat) (out : List Bool), i + d = g.length → out.length = n + i → d < k → okGates ((n : Int) + (i : Int)) (g.drop i) = true →
  spec_l4Run.l0 k out g (g.length : Int) (i : Int) = some (runW (g.drop i) out) := by
 induction d with
 | zero =>
  intro i k out hi ho hk h
  obtain ⟨k, rfl⟩ : ∃ m, k = m + 1 := ⟨k - 1, by omega⟩
  simp only [spec_l4Run.l0]
  rewrite [if_neg (by omega), List.drop_eq_nil_of_le (by omega)]; rfl
 | succ d ih =>
  intro i k out hi ho hk h
  obtain ⟨k, rfl⟩ : ∃ m, k = m + 1 := ⟨k - 1, by omega⟩
  have hit : i < g.length := by omega
  have e1 : wrap64 ((i : Int) + 1) = ((i + 1 : Nat) : Int) := by rw [wrap64_id _ (by omega) (by omega)]; omega
  have hd : g.drop i = g[i] :: g.drop (i + 1) := List.drop_eq_getElem_cons hit
  rw [hd] at h ⊢
  rw [okGates, Bool.and_eq_true] at h
  have e3 : (n : Int) + (i : Int) + 1 = (n : Int) + ((i + 1 : Nat) : Int) := by omega
  have hgo : ∀ b : Bool, b = gateVal out g[i] → spec_l4Run.l0 k (out ++ [b]) g (g.length : Int) ((i + 1 : Nat) : Int) = some (runW (g[i] :: g.drop (i + 1)) out) := by
   intro b hb
   rw [ih (i + 1) k (out ++ [b]) (by omega) (by simp; omega) (by omega) (by rw [← e3]; exact h.2), runW, hb]
  simp only [spec_l4Run.l0]
  rewrite [if_pos (by omega), if_pos (by omega), if_pos (by omega), rdGate_at hit, e1]
  rcases okGate_cases h.1 with h1 | ⟨h1, h2, h3⟩ | ⟨h1, h2, h3, h4, h5⟩
  ·rewrite [if_pos h1, if_pos (by omega)]
   exact hgo _ (by unfold gateVal; rw [if_pos h1])
  ·rewrite [if_neg (by omega), if_pos h1, if_pos h2, if_pos (by omega), if_pos (by omega)]
   exact hgo _ (by unfold gateVal; rw [if_neg (by omega), if_pos h1])
  ·rewrite [if_neg (by omega), if_neg (by omega)]
   by_cases c3 : g[i].f0 = 3
   ·rewrite [if_pos c3, if_pos h2, if_pos (by omega)]
    by_cases c : rdOf false out g[i].f1 = true
    ·rewrite [if_pos c, if_pos h4, if_pos (by omega), if_pos (by omega)]
     exact hgo _ (by unfold gateVal; rw [if_neg (by omega), if_neg (by omega), if_pos c3, if_pos c])
    ·rewrite [if_neg c, if_pos (by omega)]
     exact hgo _ (by unfold gateVal; rw [if_neg (by omega), if_neg (by omega), if_pos c3, if_neg c])
   ·rewrite [if_neg c3]
    by_cases c4 : g[i].f0 = 4
    ·rewrite [if_pos c4, if_pos h2, if_pos (by omega)]
     by_cases c : rdOf false out g[i].f1 = true
     ·rewrite [if_pos c, if_pos (by omega)]
      exact hgo _ (by unfold gateVal; rw [if_neg (by omega), if_neg (by omega), if_neg (by omega), if_pos c4, if_pos c])
     ·rewrite [if_neg c, if_pos h4, if_pos (by omega), if_pos (by omega)]
      exact hgo _ (by unfold gateVal; rw [if_neg (by omega), if_neg (by omega), if_neg (by omega), if_pos c4, if_neg c])
    ·rewrite [if_neg c4, if_pos (by omega), if_pos h2, if_pos (by omega), if_pos h4, if_pos (by omega), if_pos (by omega)]
     exact hgo _ (by unfold gateVal; rw [if_neg (by omega), if_neg (by omega), if_neg (by omega), if_neg (by omega)])
theorem run_impl_loop (g : List Gt) (hg : g.length ≤ 300) (n : Nat) (hn : n ≤ 16) (d : Nat) : ∀ (i k : Nat) (out : List Bool), i + d = g.length → out.length = n + i → d < k → okGates ((n : Int) + (i : Int)) (g.drop i) = true →
  impl_Circuit_allWires.l0 k out g (g.length : Int) (i : Int) = some (runW (g.drop i) out) := by
 induction d with
 | zero =>
  intro i k out hi ho hk h
  obtain ⟨k, rfl⟩ : ∃ m, k = m + 1 := ⟨k - 1, by omega⟩
  simp only [impl_Circuit_allWires.l0]
  rewrite [if_neg (by omega), List.drop_eq_nil_of_le (by omega)]; rfl
 | succ d ih =>
  intro i k out hi ho hk h
  obtain ⟨k, rfl⟩ : ∃ m, k = m + 1 := ⟨k - 1, by omega⟩
  have hit : i < g.length := by omega
  have e1 : wrap64 ((i : Int) + 1) = ((i + 1 : Nat) : Int) := by rw [wrap64_id _ (by omega) (by omega)]; omega
  have hd : g.drop i = g[i] :: g.drop (i + 1) := List.drop_eq_getElem_cons hit
  rw [hd] at h ⊢
  rw [okGates, Bool.and_eq_true] at h
  have e3 : (n : Int) + (i : Int) + 1 = (n : Int) + ((i + 1 : Nat) : Int) := by omega
  have hgo : ∀ b : Bool, b = gateVal out g[i] → impl_Circuit_allWires.l0 k (out ++ [b]) g (g.length : Int) ((i + 1 : Nat) : Int) = some (runW (g[i] :: g.drop (i + 1)) out) := by
   intro b hb
   rw [ih (i + 1) k (out ++ [b]) (by omega) (by simp; omega) (by omega) (by rw [← e3]; exact h.2), runW, hb]
  simp only [impl_Circuit_allWires.l0]
  rewrite [if_pos (by omega), if_pos (by omega), if_pos (by omega), rdGate_at hit, e1]
  rcases okGate_cases h.1 with h1 | ⟨h1, h2, h3⟩ | ⟨h1, h2, h3, h4, h5⟩
  ·rewrite [if_neg (by omega), if_neg (by omega), if_neg (by omega), if_neg (by omega), if_pos (by omega)]
   exact hgo _ (by unfold gateVal; rw [if_pos h1])
  ·rewrite [if_pos h1, if_pos h2, if_pos (by omega), if_pos (by omega)]
   exact hgo _ (by unfold gateVal; rw [if_neg (by omega), if_pos h1])
  ·rewrite [if_neg (by omega)]
   by_cases c3 : g[i].f0 = 3
   ·rewrite [if_pos c3, if_pos h2, if_pos (by omega)]
    by_cases c : rdOf false out g[i].f1 = true
    ·rewrite [if_pos c, if_pos h4, if_pos (by omega), if_pos (by omega)]
     exact hgo _ (by unfold gateVal; rw [if_neg (by omega), if_neg (by omega), if_pos c3, if_pos c])
    ·rewrite [if_neg c, if_pos (by omega)]
     exact hgo _ (by unfold gateVal; rw [if_neg (by omega), if_neg (by omega), if_pos c3, if_neg c])
   ·rewrite [if_neg c3]
    by_cases c4 : g[i].f0 = 4
    ·rewrite [if_pos c4, if_pos h2, if_pos (by omega)]
     by_cases c : rdOf false out g[i].f1 = true
     ·rewrite [if_pos c, if_pos (by omega)]
      exact hgo _ (by unfold gateVal; rw [if_neg (by omega), if_neg (by omega), if_neg (by omega), if_pos c4, if_pos c])
     ·rewrite [if_neg c, if_pos h4, if_pos (by omega), if_pos (by omega)]
      exact hgo _ (by unfold gateVal; rw [if_neg (by omega), if_neg (by omega), if_neg (by omega), if_pos c4, if_neg c])
    ·rewrite [if_neg c4, if_pos (by omega), if_pos h2, if_pos (by omega), if_pos h4, if_pos (by omega), if_pos (by omega)]
     exact hgo _ (by unfold gateVal; rw [if_neg (by omega), if_neg (by omega), if_neg (by omega), if_neg (by omega)])
/-- What AllWires returns. -/
def wiresR (n : Int) (g : List Gt) (o : List Int) (ins : List Bool) : List Bool × Bool :=
 if okCirc n g o = true ∧ (ins.length : Int) = n then (runW g ins, true) else ([], false)
theorem run_spec (n : Int) (g : List Gt) (o : List Int) (ins : List Bool) (h : okCirc n g o = true) (hn : (ins.length : Int) = n) (k : Nat) (hk : 400 < k) : spec_l4Run.f k n g o ins = some (runW g ins) := by
 obtain ⟨h1, h2, h3, h4, h5, h6⟩ := okCirc_is h
 unfold spec_l4Run.f
 simp only [Option.bind_some, List.length_nil, List.nil_append]
 rewrite [if_pos (by omega)]
 have := run_spec_loop g h3 ins.length (by omega) g.length 0 k ins (by omega) (by omega) (by omega) (by rw [hn]; simpa using h5)
 simpa using this
theorem run_impl (n : Int) (g : List Gt) (o : List Int) (ins : List Bool) (h : okCirc n g o = true) (hn : (ins.length : Int) = n) (k : Nat) (hk : 400 < k) : impl_Circuit_allWires.f k n g o ins = some (runW g ins) := by
 obtain ⟨h1, h2, h3, h4, h5, h6⟩ := okCirc_is h
 unfold impl_Circuit_allWires.f slices_Clone_bool.f
 simp only [Option.bind_some, List.length_nil, List.nil_append]
 rewrite [if_pos (by omega)]
 simp only [Option.bind_some]
 have := run_impl_loop g h3 ins.length (by omega) g.length 0 k ins (by omega) (by omega) (by omega) (by rw [hn]; simpa using h5)
 simpa using this
theorem AllWires_both (n : Int) (g : List Gt) (o : List Int) (ins : List Bool) (k : Nat) (hk : 400 < k) : spec_AllWires.f k n g o ins = some (wiresR n g o ins) ∧ impl_AllWires.f k n g o ins = some (wiresR n g o ins) := by
 unfold spec_AllWires.f impl_AllWires.f wiresR
 rewrite [specCirc_val n g o k (by omega), implCirc_val n g o k (by omega)]
 simp only [Option.bind_some]
 by_cases h : okCirc n g o = true
 ·rewrite [if_pos h, if_pos h]
  by_cases hn : (ins.length : Int) = n
  ·rewrite [if_pos hn, if_pos hn, run_spec n g o ins h hn k hk, run_impl n g o ins h hn k hk, if_pos ⟨h, hn⟩]
   exact ⟨rfl, rfl⟩
  ·rewrite [if_neg hn, if_neg hn, if_neg (fun x => hn x.2)]
   exact ⟨rfl, rfl⟩
 ·rewrite [if_neg h, if_neg h, if_neg (fun x => h x.1)]
  exact ⟨rfl, rfl⟩
/-- The wires that go out. -/
def outsR (n : Int) (g : List Gt) (o : List Int) (ins : List Bool) : List Bool × Bool :=
 if okCirc n g o = true ∧ (ins.length : Int) = n then (o.map (rdOf false (runW g ins)), true) else ([], false)
theorem outsR_len (n : Int) (g : List Gt) (o : List Int) (ins : List Bool) : (outsR n g o ins).1.length ≤ 400 := by
 unfold outsR
 split
 ·rename_i h
  obtain ⟨h1, h2, h3, h4, h5, h6⟩ := okCirc_is h.1
  simp only [List.length_map]; omega
 ·simp
theorem outs_spec_loop (all : List Bool) (o : List Int) (ho : o.length ≤ 16) (h : o.all (below (all.length : Int)) = true) (d : Nat) : ∀ (i k : Nat), i + d = o.length → d < k →
  spec_RunCircuit.l0 k all ((o.take i).map (rdOf false all)) o (o.length : Int) (i : Int) = some (o.map (rdOf false all), true) := by
 induction d with
 | zero =>
  intro i k hi hk
  obtain ⟨k, rfl⟩ : ∃ m, k = m + 1 := ⟨k - 1, by omega⟩
  simp only [spec_RunCircuit.l0]
  rewrite [if_neg (by omega), List.take_of_length_le (by omega)]; rfl
 | succ d ih =>
  intro i k hi hk
  obtain ⟨k, rfl⟩ : ∃ m, k = m + 1 := ⟨k - 1, by omega⟩
  have hit : i < o.length := by omega
  have e1 : wrap64 ((i : Int) + 1) = ((i + 1 : Nat) : Int) := by rw [wrap64_id _ (by omega) (by omega)]; omega
  have hb := below_is (List.all_eq_true.1 h o[i] (List.getElem_mem hit))
  have e2 : (o.take i).map (rdOf false all) ++ [rdOf false all o[i]] = (o.take (i + 1)).map (rdOf false all) := by
   rw [List.take_add_one, List.getElem?_eq_getElem hit, Option.toList_some, List.map_append]; rfl
  simp only [spec_RunCircuit.l0]
  rewrite [if_pos (by omega), if_pos (by omega), if_pos (by omega), rdInt_at hit, if_pos hb.1, if_pos hb.2, if_pos (by rw [List.length_map, List.length_take]; omega), e1, e2]
  exact ih (i + 1) k (by omega) (by omega)
theorem outs_impl_loop (all : List Bool) (o : List Int) (ho : o.length ≤ 16) (h : o.all (below (all.length : Int)) = true) (d : Nat) : ∀ (i k : Nat), i + d = o.length → d < k →
  impl_RunCircuit.l0 k all ((o.take i).map (rdOf false all)) o (o.length : Int) (i : Int) = some (o.map (rdOf false all), true) := by
 induction d with
 | zero =>
  intro i k hi hk
  obtain ⟨k, rfl⟩ : ∃ m, k = m + 1 := ⟨k - 1, by omega⟩
  simp only [impl_RunCircuit.l0]
  rewrite [if_neg (by omega), List.take_of_length_le (by omega)]; rfl
 | succ d ih =>
  intro i k hi hk
  obtain ⟨k, rfl⟩ : ∃ m, k = m + 1 := ⟨k - 1, by omega⟩
  have hit : i < o.length := by omega
  have e1 : wrap64 ((i : Int) + 1) = ((i + 1 : Nat) : Int) := by rw [wrap64_id _ (by omega) (by omega)]; omega
  have hb := below_is (List.all_eq_true.1 h o[i] (List.getElem_mem hit))
  have e2 : (o.take i).map (rdOf false all) ++ [rdOf false all o[i]] = (o.take (i + 1)).map (rdOf false all) := by
   rw [List.take_add_one, List.getElem?_eq_getElem hit, Option.toList_some, List.map_append]; rfl
  simp only [impl_RunCircuit.l0]
  rewrite [if_pos (by omega), if_pos (by omega), if_pos (by omega), rdInt_at hit, if_pos hb.1, if_pos hb.2, if_pos (by rw [List.length_map, List.length_take]; omega), e1, e2]
  exact ih (i + 1) k (by omega) (by omega)
theorem RunCircuit_both (n : Int) (g : List Gt) (o : List Int) (ins : List Bool) (k : Nat) (hk : 400 < k) : spec_RunCircuit.f k n g o ins = some (outsR n g o ins) ∧ impl_RunCircuit.f k n g o ins = some (outsR n g o ins) := by
 unfold spec_RunCircuit.f impl_RunCircuit.f
 rewrite [(AllWires_both n g o ins k hk).1, (AllWires_both n g o ins k hk).2]
 unfold wiresR outsR
 simp only [Option.bind_some]
 by_cases h : okCirc n g o = true ∧ (ins.length : Int) = n
 ·rewrite [if_pos h, if_pos h]
  obtain ⟨h1, h2, h3, h4, h5, h6⟩ := okCirc_is h.1
  have hl : n + (g.length : Int) = ((runW g ins).length : Int) := by rw [runW_len]; omega
  rw [hl] at h6
  have a := outs_spec_loop (runW g ins) o h4 h6 o.length 0 k (by omega) (by omega)
  have b := outs_impl_loop (runW g ins) o h4 h6 o.length 0 k (by omega) (by omega)
  simp only [List.take_zero, List.map_nil, Int.natCast_zero] at a b
  rewrite [if_pos rfl, if_pos rfl]
  exact ⟨a, b⟩
 ·rewrite [if_neg h, if_neg h]
  exact ⟨rfl, rfl⟩
def bt1 (a : Int) (i : Nat) : Bool := (Go.bits .and .u64 (shr .u64 a (i : Int)) 1) == 1
def rowB (a : Int) : Nat → Nat → List Bool
 | 0, _ => []
 | n + 1, i => bt1 a i :: rowB a n (i + 1)
theorem rowB_len (a : Int) (n : Nat) : ∀ i, (rowB a n i).length = n := by
 induction n with
 | zero => intro i; rfl
 | succ n ih => intro i; simp only [rowB, List.length_cons, ih]
def allBits (w : Nat) : List Int → List Bool
 | [] => []
 | a :: t => rowB a w 0 ++ allBits w t
theorem spec_row (w : Nat) (hw : w ≤ 4) (a : Int) (s : List Int) (L j : Int) (n : Nat) : ∀ (i k : Nat) (acc : List Bool), i + n = w → acc.length + n ≤ 1000000000 →
  spec_l5Bits.l1 (k + n + 1) (w : Int) acc a (i : Int) s L j = spec_l5Bits.l0 k (w : Int) (acc ++ rowB a n i) s L (wrap64 (j + 1)) := by
 induction n with
 | zero =>
  intro i k acc hi ha
  simp only [spec_l5Bits.l1]
  rewrite [if_neg (by omega)]
  simp only [rowB, List.append_nil]
 | succ n ih =>
  intro i k acc hi ha
  have e1 : wrap64 ((i : Int) + 1) = ((i + 1 : Nat) : Int) := by rw [wrap64_id _ (by omega) (by omega)]; omega
  obtain ⟨m, hm⟩ : ∃ m, k + n + 1 = m := ⟨_, rfl⟩
  rw [show k + (n + 1) + 1 = m + 1 by omega]
  simp only [spec_l5Bits.l1]
  rewrite [if_pos (by omega), u64_id (i : Int) (by omega) (by omega), if_pos (by omega), if_pos (by omega), e1, ← hm, ih (i + 1) k _ (by omega) (by simp; omega)]
  simp only [rowB, List.append_assoc, List.singleton_append]
  rfl
theorem impl_row (w : Nat) (hw : w ≤ 4) (a : Int) (s : List Int) (L j : Int) (n : Nat) : ∀ (i k : Nat) (acc : List Bool), i + n = w → acc.length + n ≤ 1000000000 →
  impl_BitsOf.l1 (k + n + 1) (w : Int) acc a s L j (w : Int) (i : Int) = impl_BitsOf.l0 k (w : Int) (acc ++ rowB a n i) s L (wrap64 (j + 1)) := by
 induction n with
 | zero =>
  intro i k acc hi ha
  simp only [impl_BitsOf.l1]
  rewrite [if_neg (by omega)]
  simp only [rowB, List.append_nil]
 | succ n ih =>
  intro i k acc hi ha
  have e1 : wrap64 ((i : Int) + 1) = ((i + 1 : Nat) : Int) := by rw [wrap64_id _ (by omega) (by omega)]; omega
  obtain ⟨m, hm⟩ : ∃ m, k + n + 1 = m := ⟨_, rfl⟩
  rw [show k + (n + 1) + 1 = m + 1 by omega]
  simp only [impl_BitsOf.l1]
  rewrite [if_pos (by omega), if_pos (by omega), if_pos (by omega), e1, ← hm, ih (i + 1) k _ (by omega) (by simp; omega)]
  simp only [rowB, List.append_assoc, List.singleton_append]
  rfl
theorem spec_all (w : Nat) (hw : w ≤ 4) (s : List Int) (hs : s.length ≤ 4) (d : Nat) : ∀ (i k : Nat) (acc : List Bool), i + d = s.length → acc.length ≤ 4 * i → 10 * d + 5 < k →
  spec_l5Bits.l0 k (w : Int) acc s (s.length : Int) (i : Int) = some (acc ++ allBits w (s.drop i)) := by
 induction d with
 | zero =>
  intro i k acc hi ha hk
  obtain ⟨k, rfl⟩ : ∃ m, k = m + 1 := ⟨k - 1, by omega⟩
  simp only [spec_l5Bits.l0]
  rw [if_neg (by omega), List.drop_eq_nil_of_le (by omega)]
  simp only [allBits, List.append_nil]
 | succ d ih =>
  intro i k acc hi ha hk
  obtain ⟨k, rfl⟩ : ∃ m, k = (m + w + 1) + 1 := ⟨k - w - 2, by omega⟩
  have hit : i < s.length := by omega
  have e1 : wrap64 ((i : Int) + 1) = ((i + 1 : Nat) : Int) := by rw [wrap64_id _ (by omega) (by omega)]; omega
  have hr := spec_row w hw s[i] s (s.length : Int) (i : Int) w 0 k acc (by omega) (by omega)
  simp only [spec_l5Bits.l0]
  rewrite [if_pos (by omega), if_pos (by omega), if_pos (by omega), rdUint64_at hit, show (0 : Int) = ((0 : Nat) : Int) from rfl, hr, e1, ih (i + 1) k _ (by omega) (by rw [List.length_append, rowB_len]; omega) (by omega), List.drop_eq_getElem_cons hit]
  simp only [allBits, List.append_assoc]
theorem impl_all (w : Nat) (hw : w ≤ 4) (s : List Int) (hs : s.length ≤ 4) (d : Nat) : ∀ (i k : Nat) (acc : List Bool), i + d = s.length → acc.length ≤ 4 * i → 10 * d + 5 < k →
  impl_BitsOf.l0 k (w : Int) acc s (s.length : Int) (i : Int) = some (acc ++ allBits w (s.drop i), true) := by
 induction d with
 | zero =>
  intro i k acc hi ha hk
  obtain ⟨k, rfl⟩ : ∃ m, k = m + 1 := ⟨k - 1, by omega⟩
  simp only [impl_BitsOf.l0]
  rw [if_neg (by omega), List.drop_eq_nil_of_le (by omega)]
  simp only [allBits, List.append_nil]
 | succ d ih =>
  intro i k acc hi ha hk
  obtain ⟨k, rfl⟩ : ∃ m, k = (m + w + 1) + 1 := ⟨k - w - 2, by omega⟩
  have hit : i < s.length := by omega
  have e1 : wrap64 ((i : Int) + 1) = ((i + 1 : Nat) : Int) := by rw [wrap64_id _ (by omega) (by omega)]; omega
  have hr := impl_row w hw s[i] s (s.length : Int) (i : Int) w 0 k acc (by omega) (by omega)
  simp only [impl_BitsOf.l0]
  rewrite [if_pos (by omega), if_pos (by omega), if_pos (by omega), rdUint64_at hit, show (0 : Int) = ((0 : Nat) : Int) from rfl, hr, e1, ih (i + 1) k _ (by omega) (by rw [List.length_append, rowB_len]; omega) (by omega), List.drop_eq_getElem_cons hit]
  simp only [allBits, List.append_assoc]
def allW (w : Int) (s : List Int) : Bool := s.all fun y => decide (word w y)
theorem words_loop (w : Int) (s : List Int) (hs : ∀ y ∈ s, 0 ≤ y ∧ y < 18446744073709551616) (hl : s.length ≤ 1048576) (d : Nat) : ∀ (i k : Nat), i + d = s.length → d + 67 < k →
  spec_l2Words.l0 k w s (s.length : Int) (i : Int) = some (allW w (s.drop i)) := by
 induction d with
 | zero =>
  intro i k hi hk
  obtain ⟨k, rfl⟩ : ∃ m, k = m + 1 := ⟨k - 1, by omega⟩
  simp only [spec_l2Words.l0]
  rw [if_neg (by omega), List.drop_eq_nil_of_le (by omega)]; rfl
 | succ d ih =>
  intro i k hi hk
  obtain ⟨k, rfl⟩ : ∃ m, k = m + 1 := ⟨k - 1, by omega⟩
  have hit : i < s.length := by omega
  have hm := hs s[i] (List.getElem_mem hit)
  have e1 : wrap64 ((i : Int) + 1) = ((i + 1 : Nat) : Int) := by rw [wrap64_id _ (by omega) (by omega)]; omega
  simp only [spec_l2Words.l0]
  rewrite [if_pos (by omega), if_pos (by omega), if_pos (by omega), rdUint64_at hit, goodWord_spec k w _ (by omega) hm.1 hm.2, List.drop_eq_getElem_cons hit]
  simp only [Option.bind_some, decide_eq_true_eq, allW, List.all_cons]
  by_cases h : word w s[i]
  ·rewrite [if_pos h, e1, ih (i + 1) k (by omega) (by omega), decide_eq_true h, Bool.true_and]; rfl
  ·rewrite [if_neg h, decide_eq_false h, Bool.false_and]; rfl
theorem anyState_val (w : Int) (s : List Int) (hs : ∀ y ∈ s, 0 ≤ y ∧ y < 18446744073709551616) : impl_isState_any.f s w = some (!allW w s) := by
 unfold impl_isState_any.f
 induction s with
 | nil => rfl
 | cons a s ih =>
  have hm := hs a (by simp)
  have := ih (fun y hy => hs y (by simp [hy]))
  simp only [impl_isState_any.any, impl_isState_any.p] at this ⊢
  rewrite [goodWord_impl w a hm.1]
  simp only [Option.bind_some, allW, List.all_cons]
  by_cases h : word w a
  ·rewrite [decide_eq_true h, if_neg (by decide), this, Bool.true_and]; rfl
  ·rewrite [decide_eq_false h, if_pos (by decide), Bool.false_and]; rfl
def bR (w : Int) (s : List Int) : List Bool × Bool := if 1 ≤ w ∧ w ≤ 4 ∧ 1 ≤ (s.length : Int) ∧ (s.length : Int) ≤ 4 ∧ allW w s = true then (allBits w.toNat s, true) else ([], false)
theorem isVarsB_val (a : Int) : impl_isVars.f a = some (decide (1 ≤ a ∧ a ≤ 4)) := by
 unfold impl_isVars.f
 by_cases h : a ≥ 1
 ·rw [if_pos h]; simp [show 1 ≤ a from h]
 ·rw [if_neg h]; simp [show ¬ 1 ≤ a from h]
theorem isLaid_val (a : Int) : impl_isLaid.f a = some (decide (1 ≤ a ∧ a ≤ 4)) := by
 unfold impl_isLaid.f
 by_cases h : a ≥ 1
 ·rw [if_pos h]; simp [show 1 ≤ a from h]
 ·rw [if_neg h]; simp [show ¬ 1 ≤ a from h]
theorem bits_impl (k : Nat) (w : Int) (s : List Int) (hs : ∀ y ∈ s, 0 ≤ y ∧ y < 18446744073709551616) (hk : 1000 < k) : impl_BitsOf.f k w s = some (bR w s) := by
 obtain ⟨k, rfl⟩ : ∃ m, k = m + 1 := ⟨k - 1, by omega⟩
 unfold impl_BitsOf.f impl_isState.f bR
 rewrite [isLaid_val, isWide_val, isVarsB_val, anyState_val w s hs]
 simp only [Option.bind_some, decide_eq_true_eq, Bool.not_not]
 by_cases h1 : 1 ≤ w ∧ w ≤ 4
 ·rewrite [if_pos h1, if_pos (⟨h1.1, by omega⟩ : 1 ≤ w ∧ w ≤ 64)]
  by_cases h2 : 1 ≤ (s.length : Int) ∧ (s.length : Int) ≤ 4
  ·rewrite [if_pos h2, if_pos trivial]
   simp only [Option.bind_some, impl_BitsOf.j0]
   by_cases ha : allW w s = true
   ·obtain ⟨n, rfl⟩ := Int.eq_ofNat_of_zero_le (show 0 ≤ w by omega)
    have hb : impl_BitsOf.l0 k (n : Int) [] s (s.length : Int) 0 = some ([] ++ allBits n (s.drop 0), true) := impl_all n (by omega) s (by omega) s.length 0 k [] (by omega) (by simp) (by omega)
    rewrite [ha, if_neg (by decide), hb, if_pos ⟨h1.1, h1.2, h2.1, h2.2, rfl⟩]
    rfl
   ·rewrite [Bool.eq_false_iff.mpr ha, if_pos (by decide), if_neg (fun h => absurd h.2.2.2.2 (by decide))]; rfl
  ·rewrite [if_neg h2, if_neg (fun h => h2 ⟨h.2.2.1, h.2.2.2.1⟩)]
   simp only [Option.bind_some, impl_BitsOf.j0]
   rfl
 ·rewrite [if_neg h1, if_neg (fun h => h1 ⟨h.1, h.2.1⟩)]
  simp only [impl_BitsOf.j0, if_true]
/-- A truth value as a number. -/
def b2n (b : Bool) : Int := if b = true then 1 else 0
/-- The word of some bits, from bit i on. -/
def wordR (bs : List Bool) : Nat → Nat → Int → Int
 | 0, _, acc => acc
 | d + 1, i, acc => wordR bs d (i + 1) (Go.bits .or .u64 acc (shl .u64 (b2n (rdOf false bs i)) i))
theorem word_impl (bs : List Bool) (hb : bs.length ≤ 1000) (d : Nat) : ∀ (i k : Nat) (acc : Int), i + d = bs.length → d < k → impl_wordOf.l0 k acc bs (bs.length : Int) (i : Int) = some (wordR bs d i acc) := by
 induction d with
 | zero =>
  intro i k acc hi hk
  obtain ⟨k, rfl⟩ : ∃ m, k = m + 1 := ⟨k - 1, by omega⟩
  simp only [impl_wordOf.l0]
  rw [if_neg (by omega)]
  rfl
 | succ d ih =>
  intro i k acc hi hk
  obtain ⟨k, rfl⟩ : ∃ m, k = m + 1 := ⟨k - 1, by omega⟩
  have e1 : wrap64 ((i : Int) + 1) = ((i + 1 : Nat) : Int) := by rw [wrap64_id _ (by omega) (by omega)]; omega
  have ht : impl_truth.f (rdOf false bs (i : Int)) = some (b2n (rdOf false bs (i : Int))) := by unfold impl_truth.f b2n; split <;> rfl
  simp only [impl_wordOf.l0]
  rw [if_pos (by omega), if_pos (by omega), if_pos (by omega), ht]
  simp only [Option.bind_some]
  rw [e1, ih (i + 1) k _ (by omega) (by omega)]
  rfl
theorem word_spec (bs : List Bool) (hb : bs.length ≤ 1000) (d : Nat) : ∀ (i k : Nat) (acc : Int), i + d = bs.length → d < k → spec_RunLaid.l0 k acc bs (bs.length : Int) (i : Int) = some (wordR bs d i acc, true) := by
 induction d with
 | zero =>
  intro i k acc hi hk
  obtain ⟨k, rfl⟩ : ∃ m, k = m + 1 := ⟨k - 1, by omega⟩
  simp only [spec_RunLaid.l0]
  rw [if_neg (by omega)]
  rfl
 | succ d ih =>
  intro i k acc hi hk
  obtain ⟨k, rfl⟩ : ∃ m, k = m + 1 := ⟨k - 1, by omega⟩
  have e1 : wrap64 ((i : Int) + 1) = ((i + 1 : Nat) : Int) := by rw [wrap64_id _ (by omega) (by omega)]; omega
  have ht : spec_l2Bool.f (rdOf false bs (i : Int)) = some (b2n (rdOf false bs (i : Int))) := by unfold spec_l2Bool.f b2n; split <;> rfl
  simp only [spec_RunLaid.l0]
  rw [if_pos (by omega), if_pos (by omega), if_pos (by omega), ht]
  simp only [Option.bind_some]
  rw [u64_id (i : Int) (by omega) (by omega), if_pos (by omega), e1, ih (i + 1) k _ (by omega) (by omega)]
  rfl
/-- What RunLaid answers. -/
def laidR (w : Int) (t : List Nd) (s : List Int) : Int × Bool :=
 if (gatesR w (s.length : Int) t).2.2.2 = true ∧ allW w s = true then
  (wordR (outsR (gatesR w (s.length : Int) t).1 (gatesR w (s.length : Int) t).2.1 (gatesR w (s.length : Int) t).2.2.1 (allBits w.toNat s)).1 (outsR (gatesR w (s.length : Int) t).1 (gatesR w (s.length : Int) t).2.1 (gatesR w (s.length : Int) t).2.2.1 (allBits w.toNat s)).1.length 0 0, true)
 else (0, false)
theorem gatesR_wide {w v : Int} {t : List Nd} (h : (gatesR w v t).2.2.2 = true) : 1 ≤ w ∧ w ≤ 4 ∧ 1 ≤ v ∧ v ≤ 4 := by
 unfold gatesR at h
 split at h
 ·rename_i hc
  have hk := hc.2.1
  unfold kindT at hk
  split at hk
  ·omega
  ·exact absurd hk (by decide)
 ·cases h
theorem laid_spec (k : Nat) (w : Int) (t : List Nd) (s : List Int) (hok : okNodes t) (hs : ∀ y ∈ s, 0 ≤ y ∧ y < 18446744073709551616) (hl : s.length ≤ 1048576) (hk : 1048800 < k) : spec_RunLaid.f k w t s = some (laidR w t s) := by
 obtain ⟨k, rfl⟩ : ∃ m, k = m + 1 := ⟨k - 1, by omega⟩
 unfold spec_RunLaid.f laidR
 rw [gatesFor_spec w _ t hok _ (by omega)]
 simp only [Option.bind_some]
 have hlen := outsR_len (gatesR w (s.length : Int) t).1 (gatesR w (s.length : Int) t).2.1 (gatesR w (s.length : Int) t).2.2.1 (allBits w.toNat s)
 by_cases hg : (gatesR w (s.length : Int) t).2.2.2 = true
 ·have hw := gatesR_wide hg
  unfold spec_l2Words.f
  have hwl : spec_l2Words.l0 (k + 1) w s (s.length : Int) 0 = some (allW w s) := words_loop w s hs hl s.length 0 (k + 1) (by omega) (by omega)
  rw [if_pos hg, hwl]
  simp only [Option.bind_some, spec_RunLaid.j0]
  by_cases ha : allW w s = true
  ·obtain ⟨n, rfl⟩ := Int.eq_ofNat_of_zero_le (show 0 ≤ w by omega)
   have hb : spec_l5Bits.l0 k (n : Int) [] s (s.length : Int) 0 = some ([] ++ allBits n (s.drop 0)) := spec_all n (by omega) s (by omega) s.length 0 k [] (by omega) (by simp) (by omega)
   rw [List.nil_append, List.drop_zero] at hb
   unfold spec_l5Bits.f
   rw [if_neg (by rw [ha]; decide), if_pos ⟨hg, ha⟩, hb]
   simp only [Option.bind_some]
   rw [(RunCircuit_both _ _ _ _ k (by omega)).1]
   simp only [Option.bind_some]
   rw [Int.toNat_natCast] at hlen ⊢
   have := word_spec (outsR (gatesR (n : Int) (s.length : Int) t).1 (gatesR (n : Int) (s.length : Int) t).2.1 (gatesR (n : Int) (s.length : Int) t).2.2.1 (allBits n s)).1 (by omega) _ 0 k 0 (Nat.zero_add _) (by omega)
   exact this
  ·rw [if_pos (by rw [Bool.eq_false_iff.mpr ha]; rfl), if_neg (fun h => ha h.2)]
 ·rw [if_neg hg, if_neg (fun h => hg h.1)]
  rfl
theorem laid_impl (k : Nat) (w : Int) (t : List Nd) (s : List Int) (hok : okNodes t) (hs : ∀ y ∈ s, 0 ≤ y ∧ y < 18446744073709551616) (hk : 2000 < k) : impl_RunLaid.f k w t s = some (laidR w t s) := by
 obtain ⟨k, rfl⟩ : ∃ m, k = m + 1 := ⟨k - 1, by omega⟩
 unfold impl_RunLaid.f laidR
 rw [bits_impl _ w s hs (by omega)]
 simp only [Option.bind_some]
 rw [gatesFor_impl w _ t hok _ (by omega)]
 simp only [Option.bind_some]
 have hlen := outsR_len (gatesR w (s.length : Int) t).1 (gatesR w (s.length : Int) t).2.1 (gatesR w (s.length : Int) t).2.2.1 (allBits w.toNat s)
 by_cases hb : (bR w s).2 = true
 ·have hc : 1 ≤ w ∧ w ≤ 4 ∧ 1 ≤ (s.length : Int) ∧ (s.length : Int) ≤ 4 ∧ allW w s = true := by
   unfold bR at hb
   split at hb
   ·assumption
   ·cases hb
  have he : (bR w s).1 = allBits w.toNat s := by unfold bR; rw [if_pos hc]
  rw [if_pos hb, he]
  simp only [impl_RunLaid.j0]
  by_cases hg : (gatesR w (s.length : Int) t).2.2.2 = true
  ·rw [if_neg (by rw [hg]; decide), if_pos ⟨hg, hc.2.2.2.2⟩, (RunCircuit_both _ _ _ _ k (by omega)).2]
   simp only [Option.bind_some]
   unfold impl_wordOf.f
   have := word_impl (outsR (gatesR w (s.length : Int) t).1 (gatesR w (s.length : Int) t).2.1 (gatesR w (s.length : Int) t).2.2.1 (allBits w.toNat s)).1 (by omega) _ 0 k 0 (Nat.zero_add _) (by omega)
   rw [Int.ofNat_zero] at this
   rw [this]
   rfl
  ·rw [if_pos (by rw [Bool.eq_false_iff.mpr hg]; rfl), if_neg (fun h => hg h.1)]
 ·rw [if_neg hb, if_neg (fun h => hb (by
   have hw := gatesR_wide h.1
   unfold bR
   rw [if_pos ⟨hw.1, hw.2.1, hw.2.2.1, hw.2.2.2, h.2⟩]))]
  rfl
theorem FnExactRunLaid : laws_FnExactRunLaid.Pure := by
 intro w l s _ hl hs
 have hll := hl.1
 have hsl := hs.1
 simp only [maxLen] at hll hsl
 have hok := conv_ok l hl.2
 have hsw : ∀ y ∈ s, 0 ≤ y ∧ y < 18446744073709551616 := fun y hy => wf_u64 (hs.2 y hy)
 refine ⟨l.length + s.length + 1050003, ?_⟩
 obtain ⟨q, hq⟩ : ∃ q, l.length + s.length + 1050000 = q := ⟨_, rfl⟩
 rw [show l.length + s.length + 1050003 = q + 3 by omega]
 unfold laws_FnExactRunLaid.f
 by_cases hb : (s.length : Int) > 1048576
 ·rw [if_pos hb]
 rewrite [if_neg hb, sz_val l (by omega)]
 simp only [Option.bind_some]
 by_cases hz : 1048576 < l.length
 ·rewrite [if_pos hz]; rfl
 ·have hlc : (l.map conv).length = l.length := List.length_map ..
  rewrite [if_neg hz, if_neg (by omega), toNodes_val _ l (by omega) (by omega)]
  simp only [Option.bind_some]
  rewrite [toUint64_val _ s (by omega) (by omega)]
  simp only [Option.bind_some]
  rewrite [laid_spec _ w _ s hok hsw (by omega) (by omega)]
  simp only [Option.bind_some]
  rewrite [laid_impl _ w _ s hok hsw (by omega)]
  simp only [Option.bind_some, if_true, laws_FnExactRunLaid.j0, bne_self_eq_false, Bool.false_eq_true, if_false]
  rewrite [toNodes_val _ l (by omega) (by omega)]
  simp only [Option.bind_some]
  rewrite [eqNodes_val _ _ (by omega) (by omega)]
  simp only [Option.bind_some, if_true]
  rewrite [toUint64_val _ s (by omega) (by omega)]
  simp only [Option.bind_some]
  rewrite [eqUint64_val _ s (by omega) (by omega)]
  rfl
end Go.Proofs.Ytckgeanmljmhfaa.Pure
