/- Bits of 64-bit words as the model tells them: and, or, xor, shifts and masks as remainders and powers of two. No condition. What the functions on words compute: each printed function's value, in terms of remainders and powers of two. Conditions: the numbers are of their kinds. Terms as lists of nodes: what an operator needs, whether a node's number fits, and the stack of kinds; the reference's and the program's functions come to these. Conditions: numbers are of their kinds, lists no longer than 2^20. Lists of nodes as the laws hand them over: copied, compared, measured. Conditions: those named. Programs as the laws hand them over: measured, copied, compared. Conditions: those named. Which programs are valid: the reference's and the program's functions come to one answer. Conditions: those named. The laws' own list functions (copying, comparing, measuring, writing over, looking again) come to plain lists. Conditions: lists no longer than 2^20. Written by wip/xp/lists.py. The laws' own list functions (copying, comparing, measuring, writing over, looking again) come to plain lists. Conditions: lists no longer than 2^20. Written by wip/xp/lists.py. The law on StateOf: both sides cut the number into words. Conditions: those of the law's own Pure. -/
import Derived.Test.YtkebpfpkohehgaaWMore
import Derived.Laws.BitsLemmas
import Derived.Test.YtkebpfpkohehgaaXO
import Derived.Test.YtkebpfpkohehgaaX1
import Derived.Test.YtkebpfpkohehgaaX10
import Derived.Test.YtkebpfpkohehgaaX12
import Derived.Test.YtkebpfpkohehgaaX14
import Derived.Test.YtkebpfpkohehgaaX15
import Derived.Test.YtkebpfpkohehgaaX16
import Derived.Test.YtkebpfpkohehgaaX18
import Derived.Test.YtkebpfpkohehgaaX21
import Derived.Test.YtkebpfpkohehgaaX24
import Derived.Test.YtkebpfpkohehgaaX27
import Derived.Test.YtkebpfpkohehgaaX3
import Derived.Test.YtkebpfpkohehgaaX35
import Derived.Test.YtkebpfpkohehgaaX36
import Derived.Test.YtkebpfpkohehgaaX40
import Derived.Test.YtkebpfpkohehgaaX42
import Derived.Test.YtkebpfpkohehgaaX5
import Derived.Test.YtkebpfpkohehgaaX7
import Derived.Test.YtkebpfpkohehgaaX8
import Derived.Test.YtkebpfpkohehgaaX9
namespace Go.Proofs.Ytkebpfpkohehgaa.Bits
open Go.RowKit Go.Proofs.YtkebpfpkohehgaaW.PrintWords

theorem wrap_u64 (n : Int) : IntKind.u64.wrap n = n % 18446744073709551616 := by simp [IntKind.wrap, IntKind.bits, IntKind.signed]
theorem wraps_u64 (n : Int) (h₀ : 0 ≤ n) (h₁ : n < 2 ^ 64) : IntKind.u64.wrap n = n := by rw [wrap_u64]; omega
theorem u64_id (n : Int) (h₀ : 0 ≤ n) (h₁ : n < 18446744073709551616) : IntKind.u64.wrap n = n := by rw [wrap_u64]; omega
theorem and_u64 (a b : Nat) (ha : a < 2 ^ 64) (hb : b < 2 ^ 64) : Go.bits .and .u64 a b = ((a &&& b : Nat) : Int) := (bits_nat .u64 64 (by decide) wraps_u64 a b ha hb).1
theorem or_u64 (a b : Nat) (ha : a < 2 ^ 64) (hb : b < 2 ^ 64) : Go.bits .or .u64 a b = ((a ||| b : Nat) : Int) := (bits_nat .u64 64 (by decide) wraps_u64 a b ha hb).2
theorem wf_i64 {a : Int} (h : (Lit.int .i64 a).wf = true) : -9223372036854775808 ≤ a ∧ a ≤ 9223372036854775807 := by
 simpa [Lit.wf, IntKind.min, IntKind.max, IntKind.signed, IntKind.bits] using h
theorem wf_u64 {a : Int} (h : (Lit.int .u64 a).wf = true) : 0 ≤ a ∧ a < 18446744073709551616 := by
 have : 0 ≤ a ∧ a ≤ 18446744073709551615 := by
  simpa [Lit.wf, IntKind.min, IntKind.max, IntKind.signed, IntKind.bits] using h
 omega
theorem wrap64_id (n : Int) (h0 : -9223372036854775808 ≤ n) (h1 : n ≤ 9223372036854775807) : wrap64 n = n := by unfold wrap64; omega

theorem pow_pos (n : Nat) : (0 : Int) < 2 ^ n := Int.pow_pos (by decide)

theorem shl_one (k : Nat) (h : k < 64) : shl .u64 1 (k : Int) = ((2 ^ k : Nat) : Int) := by
 have hb : IntKind.u64.bits = 64 := rfl
 unfold shl
 rw [hb, Int.toNat_natCast, Nat.min_eq_left (by omega), Int.one_mul, wraps_u64]
 ·simp
 ·exact Int.le_of_lt (Int.pow_pos (by decide))
 ·exact_mod_cast Nat.pow_lt_pow_right (by decide) h
theorem mod_or_and (a k : Nat) : (a % 2 ^ k) ||| (a &&& 2 ^ k) = a % 2 ^ (k + 1) := by
 apply Nat.eq_of_testBit_eq
 intro i
 simp only [Nat.testBit_or, Nat.testBit_mod_two_pow, Nat.testBit_and, Nat.testBit_two_pow]
 by_cases h : i < k
 ·have h2 : ¬ k = i := by omega
  have h3 : i < k + 1 := by omega
  simp [h, h2, h3]
 ·by_cases h2 : k = i
  ·subst h2; simp
  ·have h3 : ¬ i < k + 1 := by omega
   simp [h, h2, h3]
/-- One round of the lower bits, bit by bit. -/
theorem cut_step (a : Int) (k : Nat) (h0 : 0 ≤ a) (ha : a < 18446744073709551616) (hk : k < 64) :
  Go.bits .or .u64 (a % 2 ^ k) (Go.bits .and .u64 a (shl .u64 1 (k : Int))) = a % 2 ^ (k + 1) := by
 obtain ⟨n, rfl⟩ := Int.eq_ofNat_of_zero_le h0
 have hn : n < 2 ^ 64 := by omega
 have e1 : ((n : Int) % 2 ^ k) = ((n % 2 ^ k : Nat) : Int) := by simp
 have e2 : ((n : Int) % 2 ^ (k + 1)) = ((n % 2 ^ (k + 1) : Nat) : Int) := by simp
 rw [e1, e2, shl_one k hk, and_u64 n _ hn (Nat.pow_lt_pow_right (by decide) hk), or_u64 _ _ (Nat.lt_of_le_of_lt (Nat.mod_le _ _) hn) (Nat.and_lt_two_pow _ (Nat.pow_lt_pow_right (by decide) hk)), mod_or_and]
theorem mask_val (w : Int) (h0 : 1 ≤ w) (h1 : w ≤ 64) : shr .u64 18446744073709551615 (64 - w) = 2 ^ w.toNat - 1 := by
 obtain ⟨n, rfl⟩ := Int.eq_ofNat_of_zero_le (show 0 ≤ w by omega)
 have hb : IntKind.u64.bits = 64 := rfl
 unfold shr
 rw [hb, Int.toNat_natCast, Nat.min_eq_left (by omega)]
 have e : (64 - (n : Int)).toNat = 64 - n := by omega
 rw [e]
 have hn : n ≤ 64 := by omega
 have hp : 0 < n := by omega
 have h2 : 2 ^ (64 - n) * 2 ^ n = 2 ^ 64 := by rw [← Nat.pow_add]; congr 1; omega
 have hx : 0 < 2 ^ (64 - n) := Nat.two_pow_pos _
 have hy : 0 < 2 ^ n := Nat.two_pow_pos _
 have h3 : (18446744073709551615 : Nat) / 2 ^ (64 - n) = 2 ^ n - 1 := by
  rw [Nat.div_eq_iff hx]
  have h4 : (2 ^ n - 1) * 2 ^ (64 - n) = 2 ^ 64 - 2 ^ (64 - n) := by rw [Nat.sub_mul, Nat.mul_comm, h2]; omega
  have h5 : 2 ^ (64 - n) ≤ 2 ^ 64 := Nat.pow_le_pow_right (by decide) (by omega)
  rw [h4]
  omega
 have h6 : (18446744073709551615 : Int) / 2 ^ (64 - n) = (((18446744073709551615 : Nat) / 2 ^ (64 - n) : Nat) : Int) := by simp
 rw [h6, h3, Int.natCast_sub hy]
 simp
theorem and_mask (a : Int) (n : Nat) (h0 : 0 ≤ a) (ha : a < 18446744073709551616) (hn : n ≤ 64) : Go.bits .and .u64 a (2 ^ n - 1) = a % 2 ^ n :=
 bits_mask .u64 64 (by decide) wraps_u64 n hn a h0 ha
/-- The words of a width. -/
def word (w a : Int) : Prop := 1 ≤ w ∧ w ≤ 64 ∧ 0 ≤ a ∧ a < 2 ^ w.toNat
instance (w a : Int) : Decidable (word w a) := by unfold word; infer_instance
end Go.Proofs.Ytkebpfpkohehgaa.Bits

namespace Go.Proofs.Ytkebpfpkohehgaa.Pure
open Go.RowKit Go.Proofs.Ytkebpfpkohehgaa.X Go.Proofs.YtkebpfpkohehgaaW.PrintWords Go.Proofs.Ytkebpfpkohehgaa.Bits

theorem l1In_val (a b c : Int) : spec_l1In.f a b c = some (decide (b ≤ a ∧ a ≤ c)) := by
 unfold spec_l1In.f
 by_cases h : a ≥ b
 ·rw [if_pos h]; simp [show b ≤ a from h]
 ·rw [if_neg h]; simp [show ¬ b ≤ a from h]
theorem l1Wide_val (a : Int) : spec_l1Wide.f a = some (decide (1 ≤ a ∧ a ≤ 64)) := by
 unfold spec_l1Wide.f
 rw [l1In_val]; rfl
theorem isWide_val (a : Int) : impl_isWide.f a = some (decide (1 ≤ a ∧ a ≤ 64)) := by
 unfold impl_isWide.f
 by_cases h : a ≥ 1
 ·rw [if_pos h]; simp [show 1 ≤ a from h]
 ·rw [if_neg h]; simp [show ¬ 1 ≤ a from h]
theorem mask_f (w : Int) (h0 : 1 ≤ w) (h1 : w ≤ 64) : impl_mask.f w = some (2 ^ w.toNat - 1) := by
 unfold impl_mask.f
 have e : wrap64 (64 - w) = 64 - w := wrap64_id _ (by omega) (by omega)
 rw [e, if_pos (by omega), mask_val w h0 h1]
theorem cut_loop (w a : Int) (h0 : 0 ≤ a) (ha : a < 18446744073709551616) (hw : w ≤ 64) (d : Nat) :
  ∀ (k i : Nat), (i : Int) + d = w → d < k → spec_l1Cut.l0 k w a (a % 2 ^ i) (i : Int) = some (a % 2 ^ w.toNat) := by
 induction d with
 | zero =>
  intro k i hi hk
  obtain ⟨k, rfl⟩ : ∃ m, k = m + 1 := ⟨k - 1, by omega⟩
  simp only [spec_l1Cut.l0]
  rw [if_neg (by omega), show w.toNat = i by omega]
 | succ d ih =>
  intro k i hi hk
  obtain ⟨k, rfl⟩ : ∃ m, k = m + 1 := ⟨k - 1, by omega⟩
  simp only [spec_l1Cut.l0]
  rw [if_pos (by omega), u64_id (i : Int) (by omega) (by omega), if_pos (by omega), cut_step a i h0 ha (by omega)]
  have e : wrap64 ((i : Int) + 1) = ((i + 1 : Nat) : Int) := by rw [wrap64_id _ (by omega) (by omega)]; omega
  rw [e]
  exact ih k (i + 1) (by omega) (by omega)
theorem cut_val (k : Nat) (w a : Int) (hk : 65 < k) (hw0 : 0 ≤ w) (hw : w ≤ 64) (h0 : 0 ≤ a) (ha : a < 18446744073709551616) :
  spec_l1Cut.f k w a = some (a % 2 ^ w.toNat) := by
 have := cut_loop w a h0 ha hw w.toNat k 0 (by omega) (by omega)
 unfold spec_l1Cut.f
 simpa using this
theorem cut_word (w a : Int) (h : word w a) : a % 2 ^ w.toNat = a := Int.emod_eq_of_lt h.2.2.1 h.2.2.2
theorem goodWord_spec (k : Nat) (w a : Int) (hk : 65 < k) (h0 : 0 ≤ a) (ha : a < 18446744073709551616) : spec_GoodWord.f k w a = some (decide (word w a)) := by
 unfold spec_GoodWord.f
 rw [l1Wide_val]
 simp only [Option.bind_some]
 by_cases h : 1 ≤ w ∧ w ≤ 64
 ·rw [if_pos (by simpa using h), cut_val k w a hk (by omega) h.2 h0 ha]
  simp only [Option.bind_some, Option.some.injEq]
  rw [Bool.eq_iff_iff]
  simp only [beq_iff_eq, decide_eq_true_eq]
  constructor
  ·intro e
   refine ⟨h.1, h.2, h0, ?_⟩
   rw [← e]; exact Int.emod_lt_of_pos _ (pow_pos _)
  ·exact cut_word w a
 ·rw [if_neg (by simpa using h)]
  have : ¬ word w a := fun e => h ⟨e.1, e.2.1⟩
  simp [this]
theorem goodWord_impl (w a : Int) (h0 : 0 ≤ a) : impl_GoodWord.f w a = some (decide (word w a)) := by
 unfold impl_GoodWord.f
 rw [isWide_val]
 simp only [Option.bind_some]
 by_cases h : 1 ≤ w ∧ w ≤ 64
 ·rw [if_pos (by simpa using h), mask_f w h.1 h.2]
  simp only [Option.bind_some, Option.some.injEq]
  rw [Bool.eq_iff_iff]
  simp only [decide_eq_true_eq]
  constructor
  ·intro e; exact ⟨h.1, h.2, h0, by omega⟩
  ·intro e; have := e.2.2.2; omega
 ·rw [if_neg (by simpa using h)]
  have : ¬ word w a := fun e => h ⟨e.1, e.2.1⟩
  simp [this]
end Go.Proofs.Ytkebpfpkohehgaa.Pure

namespace Go.Proofs.Ytkebpfpkohehgaa.Pure
open Go.RowKit Go.Proofs.Ytkebpfpkohehgaa.X Go.Proofs.YtkebpfpkohehgaaW.PrintWords Go.Proofs.YtkebpfpkohehgaaW.PrintLast Go.Proofs.Ytkebpfpkohehgaa.Bits

abbrev Nd := S82
/-- What an operator takes: how many operands, of which kind, and the kind of its result. -/
def need (op : Int) : Int × Int × Int :=
 if op = 1 ∨ op = 2 then (0, 1, 1) else if op = 20 then (0, 2, 2) else if op = 13 then (1, 1, 1) else if op = 19 then (1, 2, 2)
 else if 3 ≤ op ∧ op ≤ 12 then (2, 1, 1) else if 14 ≤ op ∧ op ≤ 16 then (2, 1, 2) else if op = 17 ∨ op = 18 then (2, 2, 2) else (0, 0, 0)
theorem isVars_val (a : Int) : impl_isVars.f a = some (decide (1 ≤ a ∧ a ≤ 4)) := by
 unfold impl_isVars.f
 by_cases h : a ≥ 1
 ·rw [if_pos h]; simp [show 1 ≤ a from h]
 ·rw [if_neg h]; simp [show ¬ 1 ≤ a from h]
theorem need_spec (k : Nat) (op : Int) (hk : 3 < k) : spec_l2Need.f k op = some (need op) := by
 obtain ⟨k, rfl⟩ : ∃ m, k = m + 1 := ⟨k - 1, by omega⟩
 unfold spec_l2Need.f need
 by_cases h1 : op = 1
 ·simp [h1, spec_l2Need.j0]
 ·by_cases h2 : op = 2
  ·simp [h2, spec_l2Need.j0]
  ·have hb : (op == 2) = false := by simpa using h2
   rw [if_neg h1, hb, if_neg (by omega)]
   simp only [spec_l2Need.j0]
   rw [if_neg (by decide)]
   by_cases h3 : op = 20
   ·simp [h3]
   ·rw [if_neg h3, if_neg h3]
    by_cases h4 : op = 13
    ·simp [h4]
    ·rw [if_neg h4, if_neg h4]
     by_cases h5 : op = 19
     ·simp [h5]
     ·rw [if_neg h5, if_neg h5, l1In_val, l1In_val]
      simp only [Option.bind_some, decide_eq_true_eq]
      by_cases h6 : 3 ≤ op ∧ op ≤ 12
      ·rw [if_pos h6, if_pos h6]
      ·rw [if_neg h6, if_neg h6]
       by_cases h7 : 14 ≤ op ∧ op ≤ 16
       ·rw [if_pos h7, if_pos h7]
       ·rw [if_neg h7, if_neg h7]
        by_cases h8 : op = 17
        ·simp [h8]
        ·by_cases h9 : op = 18
         ·simp [h9]
         ·rw [if_neg h8, if_neg h9, if_neg (by omega)]
/-- The program's own table: of a leaf the operands' kind is 0. -/
def needI (op : Int) : Int × Int × Int :=
 if op = 1 ∨ op = 2 then (0, 0, 1) else if op = 20 then (0, 0, 2) else if op = 13 then (1, 1, 1) else if op = 19 then (1, 2, 2)
 else if 3 ≤ op ∧ op ≤ 12 then (2, 1, 1) else if 14 ≤ op ∧ op ≤ 16 then (2, 1, 2) else if op = 17 ∨ op = 18 then (2, 2, 2) else (0, 0, 0)
theorem needI_eq (op : Int) : (needI op).1 = (need op).1 ∧ (needI op).2.2 = (need op).2.2 ∧ ((need op).1 ≠ 0 → (needI op).2.1 = (need op).2.1) := by
 unfold needI need; (repeat' split) <;> simp
theorem need_impl (k : Nat) (op : Int) (hk : 3 < k) : impl_operandsOf.f k op = some (needI op) := by
 obtain ⟨k, rfl⟩ : ∃ m, k = m + 3 := ⟨k - 3, by omega⟩
 unfold impl_operandsOf.f needI
 by_cases h1 : op = 1
 ·simp [h1, impl_operandsOf.j0]
 ·by_cases h2 : op = 2
  ·simp [h2, impl_operandsOf.j0]
  ·have hb : (op == 2) = false := by simpa using h2
   rw [if_neg h1, hb, if_neg (by omega)]
   simp only [impl_operandsOf.j0]
   rw [if_neg (by decide)]
   by_cases h3 : op = 20
   ·simp [h3]
   ·rw [if_neg h3, if_neg h3]
    by_cases h4 : op = 13
    ·simp [h4]
    ·rw [if_neg h4, if_neg h4]
     by_cases h5 : op = 19
     ·simp [h5]
     ·rw [if_neg h5, if_neg h5]
      have e1 : (if op ≥ 3 then impl_operandsOf.j1 (k + 2) op (decide (op ≤ 12)) else impl_operandsOf.j1 (k + 2) op false) = impl_operandsOf.j1 (k + 2) op (decide (3 ≤ op ∧ op ≤ 12)) := by
       by_cases h : op ≥ 3
       ·rw [if_pos h]; congr 1; simp [show 3 ≤ op from h]
       ·rw [if_neg h]; congr 1; simp [show ¬ 3 ≤ op from h]
      rw [e1]
      simp only [impl_operandsOf.j1, decide_eq_true_eq]
      by_cases h6 : 3 ≤ op ∧ op ≤ 12
      ·rw [if_pos h6, if_pos h6]
      ·rw [if_neg h6, if_neg h6]
       have e2 : (if op ≥ 14 then impl_operandsOf.j2 (k + 1) op (decide (op ≤ 16)) else impl_operandsOf.j2 (k + 1) op false) = impl_operandsOf.j2 (k + 1) op (decide (14 ≤ op ∧ op ≤ 16)) := by
        by_cases h : op ≥ 14
        ·rw [if_pos h]; congr 1; simp [show 14 ≤ op from h]
        ·rw [if_neg h]; congr 1; simp [show ¬ 14 ≤ op from h]
       rw [e2]
       simp only [impl_operandsOf.j2, decide_eq_true_eq]
       by_cases h7 : 14 ≤ op ∧ op ≤ 16
       ·rw [if_pos h7, if_pos h7]
       ·rw [if_neg h7, if_neg h7]
        by_cases h8 : op = 17
        ·simp [h8]
        ·by_cases h9 : op = 18
         ·simp [h9]
         ·rw [if_neg h8, if_neg h9, if_neg (by omega)]
theorem need_range (op : Int) : 0 ≤ (need op).1 ∧ (need op).1 ≤ 2 ∧ 0 ≤ (need op).2.2 ∧ (need op).2.2 ≤ 2 ∧ 0 ≤ (need op).2.1 ∧ (need op).2.1 ≤ 2 := by
 unfold need; (repeat' split) <;> decide
theorem need_is (op : Int) : ∃ m p r, need op = (m, p, r) ∧ 0 ≤ m ∧ m ≤ 2 ∧ 0 ≤ r ∧ r ≤ 2 ∧ 0 ≤ p ∧ p ≤ 2 :=
 ⟨(need op).1, (need op).2.1, (need op).2.2, rfl, need_range op⟩
attribute [irreducible] need needI
/-- Does a node's number fit its operator? -/
def leafB (w v : Int) (x : Nd) : Bool :=
 if x.f0 = 1 then decide (word w x.f1) else if x.f0 = 2 then decide (x.f1 < v) else if x.f0 = 20 then decide (x.f1 ≤ 1) else decide (x.f1 = 0)
theorem leaf_spec (k : Nat) (w v a b : Int) (hk : 65 < k) (hv0 : 0 ≤ v) (hv : v ≤ 4) (h0 : 0 ≤ b) (h1 : b < 18446744073709551616) : spec_l2N.f k w v a b = some (leafB w v ⟨a, b⟩) := by
 unfold spec_l2N.f leafB
 by_cases h2 : a = 1
 ·rw [if_pos h2, if_pos h2, goodWord_spec k w b hk h0 h1]; rfl
 ·rw [if_neg h2, if_neg h2, u64_id v hv0 (by omega)]
  by_cases h3 : a = 2
  ·rw [if_pos h3, if_pos h3]
  ·rw [if_neg h3, if_neg h3]
   by_cases h4 : a = 20
   ·rw [if_pos h4, if_pos h4]; congr 1; rw [Bool.eq_iff_iff]; simp only [decide_eq_true_eq]; omega
   ·rw [if_neg h4, if_neg h4]; first | done | rfl | (congr 1; first | done | rfl | (rw [Bool.eq_iff_iff]; simp))
theorem leaf_impl (w v a b : Int) (hv0 : 0 ≤ v) (hv : v ≤ 4) (h0 : 0 ≤ b) : impl_isLeafRight.f w v a b = some (leafB w v ⟨a, b⟩) := by
 unfold impl_isLeafRight.f leafB
 by_cases h2 : a = 1
 ·rw [if_pos h2, if_pos h2, goodWord_impl w b h0]; rfl
 ·rw [if_neg h2, if_neg h2, u64_id v hv0 (by omega)]
  by_cases h3 : a = 2
  ·rw [if_pos h3, if_pos h3]
  ·rw [if_neg h3, if_neg h3]
   by_cases h4 : a = 20
   ·rw [if_pos h4, if_pos h4]
   ·rw [if_neg h4, if_neg h4]; first | done | rfl | (congr 1; first | done | rfl | (rw [Bool.eq_iff_iff]; simp))
/-- One node over the stack of kinds; the top is the list's head. -/
def stepK (w v : Int) (st : List Int) (x : Nd) : Option (List Int) :=
 if (need x.f0).2.2 = 0 then none else if leafB w v x = true then
  if (st.length : Int) < (need x.f0).1 then none else if (st.take (need x.f0).1.toNat).all (fun y => y == (need x.f0).2.1) = true then some ((need x.f0).2.2 :: st.drop (need x.f0).1.toNat) else none
 else none
def runK (w v : Int) : List Nd → List Int → Option (List Int)
 | [], st => some st
 | x :: t, st => (stepK w v st x).bind (runK w v t)
theorem rd_last (st : List Int) (a : Int) : rd ((a :: st).reverse) (((a :: st).reverse.length : Int) - 1) = a := by
 have : (((a :: st).reverse.length : Int) - 1).toNat = st.length := by simp
 unfold rd
 rw [this]
 simp [List.getD]
theorem take_last (st : List Int) (a : Int) (n : Nat) (h : n = st.length) : (a :: st).reverse.take n = st.reverse := by
 subst h
 rw [List.reverse_cons, List.take_left' (by simp)]
/-- The reference pops one part after another. -/
theorem spec_pop (w v part own : Int) (t : List Nd) (n i : Int) (m : Nat) : ∀ (st : List Int) (k : Nat), m ≤ st.length → st.length ≤ 48 → (m : Int) ≤ 2 → m + 1 < k →
  ∃ k', k ≤ k' + m + 1 ∧ spec_l2Kind.l1 k w v st.reverse m part own t n i =
   if (st.take m).all (fun y => y == part) = true then spec_l2Kind.l0 k' w v ((st.drop m).reverse ++ [own]) t n (wrap64 (i + 1)) else some 0 := by
 induction m with
 | zero =>
  intro st k hm hl h2 hk
  obtain ⟨k, rfl⟩ : ∃ m, k = m + 1 := ⟨k - 1, by omega⟩
  refine ⟨k, by omega, ?_⟩
  simp only [spec_l2Kind.l1]
  rewrite [if_neg (by omega), if_pos (by simp; omega)]
  simp
 | succ m ih =>
  intro st k hm hl h2 hk
  obtain ⟨k, rfl⟩ : ∃ m, k = m + 1 := ⟨k - 1, by omega⟩
  obtain ⟨a, st, rfl⟩ : ∃ a s, st = a :: s := by cases st with | nil => simp at hm | cons a s => exact ⟨a, s, rfl⟩
  have hlen : ((a :: st).reverse.length : Int) = (st.length : Int) + 1 := by simp
  simp only [List.length_cons] at hm hl
  have e1 : wrap64 (((a :: st).reverse.length : Int) - 1) = ((a :: st).reverse.length : Int) - 1 := wrap64_id _ (by omega) (by omega)
  have e2 : wrap64 (((m + 1 : Nat) : Int) - 1) = (m : Int) := by rw [wrap64_id _ (by omega) (by omega)]; omega
  have e3 : (a :: st).reverse.take (((a :: st).reverse.length : Int) - 1).toNat = st.reverse := take_last st a _ (by omega)
  obtain ⟨k', hk', he⟩ := ih st k (by omega) (by omega) (by omega) (by omega)
  refine ⟨k', by omega, ?_⟩
  simp only [spec_l2Kind.l1]
  rewrite [e1, rd_last, if_pos (by omega), if_pos (by omega), if_pos (by omega), e2]
  by_cases h : a = part
  ·rewrite [if_pos h, if_pos (by omega), e3, he]
   simp [h]
  ·rewrite [if_neg h, if_neg (by simp [h])]
   rfl
def okNodes (t : List Nd) : Prop := ∀ x ∈ t, 0 ≤ x.f1 ∧ x.f1 < 18446744073709551616
theorem rd_at {t : List Nd} {i : Nat} (h : i < t.length) : rd_T82 t (i : Int) = t[i] := by
 unfold rd_T82
 rw [Int.toNat_natCast, List.getD_eq_getElem?_getD, List.getElem?_eq_getElem h]; rfl
def top (r : Option (List Int)) : Int := match r with
 | some [x] => x
 | _ => 0
theorem spec_l2Kind_loop (w v : Int) (t : List Nd) (hok : okNodes t) (hv0 : 0 ≤ v) (hv : v ≤ 4) (ht : t.length ≤ 48) (d : Nat) : ∀ (i : Nat) (st : List Int) (k : Nat), i + d = t.length → st.length ≤ i → 5 * d + 70 < k →
  spec_l2Kind.l0 k w v st.reverse t (t.length : Int) (i : Int) = some (top (runK w v (t.drop i) st)) := by
 induction d with
 | zero =>
  intro i st k hi hs hk
  obtain ⟨k, rfl⟩ : ∃ m, k = m + 1 := ⟨k - 1, by omega⟩
  simp only [spec_l2Kind.l0]
  rewrite [if_neg (by omega), List.drop_eq_nil_of_le (by omega)]
  simp only [runK, List.length_reverse]
  match st with
  | [] => simp [top]
  | [a] => simp [top, rd]
  | a :: b :: s => rewrite [if_neg (by simp only [List.length_cons]; omega)]; rfl
 | succ d ih =>
  intro i st k hi hs hk
  obtain ⟨k, rfl⟩ : ∃ m, k = m + 2 := ⟨k - 2, by omega⟩
  have hit : i < t.length := by omega
  have q0 : (0 : Int) ≤ (i : Int) := by omega
  have q1 : (i : Int) < (t.length : Int) := by omega
  have q2 : 3 < k + 1 := by omega
  have q3 : 65 < k + 1 := by omega
  have q4 : i + 1 + d = t.length := by omega
  have q5 : st.length ≤ 48 := by omega
  have e1 : wrap64 ((i : Int) + 1) = ((i + 1 : Nat) : Int) := by rw [wrap64_id _ (by omega) (by omega)]; omega
  have hx := hok t[i] (List.getElem_mem hit)
  obtain ⟨mm, pp, rr, hn, b0, b1, b2, b3, b4, b5⟩ := need_is t[i].f0
  have hdrop : t.drop i = t[i] :: t.drop (i + 1) := List.drop_eq_getElem_cons hit
  simp only [spec_l2Kind.l0]
  rewrite [if_pos q1, if_pos q0, if_pos q1, rd_at hit, need_spec _ _ q2, hn]
  simp only [Option.bind_some]
  rewrite [hdrop]
  simp only [runK]
  unfold stepK
  simp only [hn]
  clear hdrop
  by_cases h0 : rr = 0
  ·rewrite [if_pos h0, if_pos h0]
   simp only [spec_l2Kind.j2, if_true]
   rfl
  ·rewrite [if_neg h0, if_neg h0, leaf_spec _ w v _ _ q3 hv0 hv hx.1 hx.2]
   clear hx
   simp only [Option.bind_some]
   by_cases h1 : leafB w v t[i] = true
   ·rewrite [if_pos h1, if_pos h1]
    simp only [spec_l2Kind.j2, List.length_reverse]
    by_cases h2 : (st.length : Int) < mm
    ·rewrite [if_pos (by simpa using h2), if_pos h2]
     rfl
    ·rewrite [if_neg (by simpa using h2), if_neg h2]
     obtain ⟨m, hm⟩ := Int.eq_ofNat_of_zero_le b0
     rw [hm]
     have hm2 : (m : Int) ≤ 2 := by omega
     obtain ⟨k', hk', he⟩ := spec_pop w v pp rr t (t.length : Int) (i : Int) m st k (by omega) q5 hm2 (by omega)
     rewrite [he, Int.toNat_natCast, e1]
     by_cases h3 : (st.take m).all (fun y => y == pp) = true
     ·rewrite [if_pos h3, if_pos h3]
      have := ih (i + 1) (rr :: st.drop m) k' q4 (by simp only [List.length_cons, List.length_drop]; omega) (by omega)
      rw [List.reverse_cons] at this
      rw [this]
      rfl
     ·rewrite [if_neg h3, if_neg h3]
      rfl
   ·rewrite [if_neg h1, if_neg h1]
    simp only [spec_l2Kind.j2, if_true]
    rfl
/-- The kind of a good term, else 0. -/
def kindT (w v : Int) (t : List Nd) : Int :=
 if 1 ≤ w ∧ w ≤ 64 ∧ 1 ≤ v ∧ v ≤ 4 ∧ 1 ≤ t.length ∧ t.length ≤ 48 then top (runK w v t []) else 0
theorem l2Kind_val (k : Nat) (w v : Int) (t : List Nd) (hok : okNodes t) (hk : 400 < k) : spec_l2Kind.f k w v t = some (kindT w v t) := by
 obtain ⟨k, rfl⟩ : ∃ m, k = m + 1 := ⟨k - 1, by omega⟩
 unfold spec_l2Kind.f kindT
 rw [l1Wide_val, l1In_val, l1In_val]
 simp only [Option.bind_some, decide_eq_true_eq, spec_l2Kind.j0]
 by_cases h1 : 1 ≤ w ∧ w ≤ 64
 ·rewrite [if_pos h1]
  by_cases h2 : 1 ≤ v ∧ v ≤ 4
  ·rewrite [if_pos h2]
   by_cases h3 : 1 ≤ (t.length : Int) ∧ (t.length : Int) ≤ 48
   ·rewrite [if_neg (by simp [h3]), if_pos (by omega)]
    have := spec_l2Kind_loop w v t hok (by omega) h2.2 (by omega) t.length 0 [] k (by omega) (by simp) (by omega)
    simpa using this
   ·rewrite [if_pos (by rw [decide_eq_false h3]; rfl), if_neg (by omega)]
    rfl
  ·rewrite [if_neg h2, if_pos trivial, if_neg (by omega)]
   rfl
 ·rewrite [if_neg h1, if_pos trivial, if_neg (by omega)]
  rfl
theorem drop_rev (st : List Int) (m : Nat) (h : m ≤ st.length) : st.reverse.drop (st.length - m) = (st.take m).reverse := by
 rw [List.drop_reverse]; congr 2; omega
theorem take_rev (st : List Int) (m : Nat) (h : m ≤ st.length) : st.reverse.take (st.length - m) = (st.drop m).reverse := by
 rw [List.take_reverse]; congr 2; omega
theorem any_ne_all (l : List Int) (p : Int) : (l.reverse.any fun x => x != p) = !(l.all fun y => y == p) := by
 rw [List.any_reverse, List.not_all_eq_any_not]
 rfl
/-- The program's verdict: one value remains. -/
def oneLeft (r : Option (List Int)) : Bool := match r with
 | some [_] => true
 | _ => false
theorem impl_GoodTerm_loop (w v : Int) (t : List Nd) (hok : okNodes t) (hv0 : 0 ≤ v) (hv : v ≤ 4) (ht : t.length ≤ 48) (d : Nat) : ∀ (i : Nat) (st : List Int) (k : Nat), i + d = t.length → st.length ≤ i → d + 10 < k →
  impl_GoodTerm.l0 k w v st.reverse t (t.length : Int) (i : Int) = some (oneLeft (runK w v (t.drop i) st)) := by
 induction d with
 | zero =>
  intro i st k hi hs hk
  obtain ⟨k, rfl⟩ : ∃ m, k = m + 1 := ⟨k - 1, by omega⟩
  simp only [impl_GoodTerm.l0]
  rw [if_neg (by omega), List.drop_eq_nil_of_le (by omega)]
  simp only [runK, List.length_reverse]
  match st with
  | [] => rfl
  | [a] => rfl
  | a :: b :: s => simp only [List.length_cons, oneLeft, Option.some.injEq]; rw [beq_eq_false_iff_ne]; omega
 | succ d ih =>
  intro i st k hi hs hk
  obtain ⟨k, rfl⟩ : ∃ m, k = m + 1 := ⟨k - 1, by omega⟩
  have hit : i < t.length := by omega
  have q0 : (0 : Int) ≤ (i : Int) := by omega
  have q1 : (i : Int) < (t.length : Int) := by omega
  have q2 : 3 < k := by omega
  have q4 : i + 1 + d = t.length := by omega
  have q5 : st.length ≤ 48 := by omega
  have e1 : wrap64 ((i : Int) + 1) = ((i + 1 : Nat) : Int) := by rw [wrap64_id _ (by omega) (by omega)]; omega
  have hx := hok t[i] (List.getElem_mem hit)
  obtain ⟨mm, pp, rr, hn, b0, b1, b2, b3, b4, b5⟩ := need_is t[i].f0
  obtain ⟨n1, n2, n3⟩ := needI_eq t[i].f0
  rw [hn] at n1 n2 n3
  simp only at n1 n2 n3
  have hdrop : t.drop i = t[i] :: t.drop (i + 1) := List.drop_eq_getElem_cons hit
  simp only [impl_GoodTerm.l0]
  rewrite [if_pos q1, if_pos q0, if_pos q1, rd_at hit, need_impl _ _ q2]
  simp only [Option.bind_some]
  rewrite [n1, n2, hdrop]
  simp only [runK]
  unfold stepK
  simp only [hn]
  clear hdrop n1 n2 hn
  by_cases h0 : rr = 0
  ·rewrite [if_pos h0, if_pos h0]
   rfl
  ·rewrite [if_neg h0, if_neg h0, leaf_impl w v _ _ hv0 hv hx.1]
   clear hx
   simp only [Option.bind_some]
   by_cases h1 : leafB w v t[i] = true
   ·rewrite [if_pos h1, if_pos h1]
    clear h1
    have hl : (st.reverse.length : Int) = (st.length : Int) := by simp
    obtain ⟨m, hm⟩ := Int.eq_ofNat_of_zero_le b0
    subst hm
    have e2 : wrap64 ((st.reverse.length : Int) - (m : Int)) = (st.length : Int) - (m : Int) := by rw [wrap64_id _ (by omega) (by omega), hl]
    rewrite [e2]
    by_cases h2 : (st.length : Int) < (m : Int)
    ·rewrite [if_pos (by omega), if_pos h2]
     rfl
    ·have hms : m ≤ st.length := by omega
     have e3 : ((st.length : Int) - (m : Int)).toNat = st.length - m := by omega
     rewrite [if_neg (by omega), if_pos (by omega), if_pos (by omega), if_neg h2, e3, drop_rev st m hms, take_rev st m hms]
     unfold impl_GoodTerm_any.f
     simp only [Option.bind_some]
     rewrite [any_ne_all, Int.toNat_natCast]
     have hpart : ((st.take m).all fun y => y == (needI t[i].f0).2.1) = ((st.take m).all fun y => y == pp) := by
      by_cases hz : (m : Int) = 0
      ·obtain rfl : m = 0 := by omega
       rfl
      ·rw [n3 hz]
     rewrite [hpart]
     clear hpart n3
     by_cases h3 : (st.take m).all (fun y => y == pp) = true
     ·rewrite [if_neg (by rw [h3]; decide), if_pos h3, if_pos (by simp; omega), e1]
      have := ih (i + 1) (rr :: st.drop m) k q4 (by simp only [List.length_cons, List.length_drop]; omega) (by omega)
      rw [List.reverse_cons] at this
      exact this
     ·rewrite [if_pos (by simpa using h3), if_neg h3]
      rfl
   ·rewrite [if_neg h1, if_neg h1]
    rfl
theorem step_pos (w v : Int) (st : List Int) (x : Nd) (st' : List Int) (h : stepK w v st x = some st') (hs : ∀ y ∈ st, y = 1 ∨ y = 2) : ∀ y ∈ st', y = 1 ∨ y = 2 := by
 obtain ⟨mm, pp, rr, hn, b0, b1, b2, b3, b4, b5⟩ := need_is x.f0
 unfold stepK at h
 rw [hn] at h
 simp only at h
 split at h
 ·cases h
 ·split at h
  ·split at h
   ·cases h
   ·split at h
    ·obtain rfl := Option.some.inj h
     intro y hy
     rcases List.mem_cons.1 hy with rfl | hy
     ·omega
     ·exact hs y (List.mem_of_mem_drop hy)
    ·cases h
  ·cases h
theorem run_pos (w v : Int) (t : List Nd) : ∀ st st', runK w v t st = some st' → (∀ y ∈ st, y = 1 ∨ y = 2) → ∀ y ∈ st', y = 1 ∨ y = 2 := by
 induction t with
 | nil => intro st st' h hs; simp only [runK, Option.some.injEq] at h; subst h; exact hs
 | cons x t ih =>
  intro st st' h hs
  simp only [runK, Option.bind_eq_some_iff] at h
  obtain ⟨s1, h1, h2⟩ := h
  exact ih _ _ h2 (step_pos w v st x s1 h1 hs)
theorem oneLeft_top (w v : Int) (t : List Nd) : oneLeft (runK w v t []) = decide (top (runK w v t []) > 0) := by
 cases h : runK w v t [] with
 | none => rfl
 | some st =>
  have hp := run_pos w v t [] st h (fun y hy => absurd hy (by simp))
  match st with
  | [] => rfl
  | [a] => have := hp a (by simp); show true = decide (a > 0); symm; exact decide_eq_true (by omega)
  | a :: b :: s => rfl
theorem goodTerm_impl (k : Nat) (w v : Int) (t : List Nd) (hok : okNodes t) (hk : 400 < k) : impl_GoodTerm.f k w v t = some (decide (kindT w v t > 0)) := by
 obtain ⟨k, rfl⟩ : ∃ m, k = m + 1 := ⟨k - 1, by omega⟩
 unfold impl_GoodTerm.f kindT
 rw [isWide_val, isVars_val]
 simp only [Option.bind_some, decide_eq_true_eq, impl_GoodTerm.j0]
 by_cases h1 : 1 ≤ w ∧ w ≤ 64
 ·rewrite [if_pos h1]
  by_cases h2 : 1 ≤ v ∧ v ≤ 4
  ·rewrite [if_pos h2]
   by_cases h3 : (t.length : Int) < 1
   ·rewrite [if_pos h3, if_pos trivial, if_neg (by omega)]
    rfl
   ·rewrite [if_neg h3]
    by_cases h4 : (t.length : Int) > 48
    ·rewrite [if_pos h4, if_neg (by omega)]
     rfl
    ·rewrite [if_neg h4, if_pos (by omega)]
     have := impl_GoodTerm_loop w v t hok (by omega) h2.2 (by omega) t.length 0 [] k (by omega) (by simp) (by omega)
     rw [List.drop_zero] at this
     rw [← oneLeft_top]
     exact this
  ·rewrite [if_neg h2, if_pos trivial, if_neg (by omega)]
   rfl
 ·rewrite [if_neg h1, if_pos trivial, if_neg (by omega)]
  rfl
end Go.Proofs.Ytkebpfpkohehgaa.Pure

namespace Go.Proofs.Ytkebpfpkohehgaa.Pure
open Go.RowKit Go.Proofs.Ytkebpfpkohehgaa.X Go.Proofs.YtkebpfpkohehgaaW.PrintWords Go.Proofs.YtkebpfpkohehgaaW.PrintLast Go.Proofs.Ytkebpfpkohehgaa.Bits

abbrev Nl := S84
def conv (x : Nl) : Nd := ⟨x.f0, x.f1⟩
theorem rdl_at {t : List Nl} {i : Nat} (h : i < t.length) : rd_T84 t (i : Int) = t[i] := by
 unfold rd_T84
 rw [Int.toNat_natCast, List.getD_eq_getElem?_getD, List.getElem?_eq_getElem h]; rfl
theorem set_mid {α : Type} (a b : List α) (x y : α) (n : Nat) (h : n = a.length) : (a ++ x :: b).set n y = a ++ y :: b := by
 subst h; simp
theorem toNodes_loop (l : List Nl) (hl : l.length ≤ 1048576) (d : Nat) : ∀ (i : Nat) (k : Nat), i + d = l.length → d < k →
  laws_toNodeS.l0 k l ((l.take i).map conv ++ List.replicate d z82) (i : Int) = some (l.map conv) := by
 induction d with
 | zero =>
  intro i k hi hk
  obtain ⟨k, rfl⟩ : ∃ m, k = m + 1 := ⟨k - 1, by omega⟩
  simp only [laws_toNodeS.l0]
  rw [if_neg (by omega), List.take_of_length_le (by omega)]
  simp
 | succ d ih =>
  intro i k hi hk
  obtain ⟨k, rfl⟩ : ∃ m, k = m + 1 := ⟨k - 1, by omega⟩
  have hit : i < l.length := by omega
  have e1 : wrap64 ((i : Int) + 1) = ((i + 1 : Nat) : Int) := by rw [wrap64_id _ (by omega) (by omega)]; omega
  simp only [laws_toNodeS.l0]
  rewrite [if_pos (by omega), if_pos (by omega)]
  unfold laws_toNode.f
  simp only [Option.bind_some]
  rewrite [if_pos (by simp; omega), rdl_at hit, e1, Int.toNat_natCast, List.replicate_succ, set_mid _ _ _ _ _ (by simp; omega)]
  have h2 : (l.take i).map conv ++ (⟨l[i].f0, l[i].f1⟩ : Nd) :: List.replicate d z82 = (l.take (i + 1)).map conv ++ List.replicate d z82 := by
   rw [List.take_add_one, List.getElem?_eq_getElem hit, Option.toList_some, List.map_append, List.append_assoc]
   rfl
  rewrite [h2]
  exact ih (i + 1) k (by omega) (by omega)
theorem toNodes_val (k : Nat) (l : List Nl) (hl : l.length ≤ 1048576) (hk : l.length < k) : laws_toNodeS.f k l = some (l.map conv) := by
 unfold laws_toNodeS.f
 rw [if_pos (by omega), Int.toNat_natCast, if_pos (by omega)]
 have := toNodes_loop l hl l.length 0 k (by omega) hk
 simpa using this
theorem eqNodes_loop (l : List Nd) (hl : l.length ≤ 1048576) (d : Nat) : ∀ (i : Nat) (k : Nat), i + d = l.length → d < k → laws_eqNodeS.l0 k l l (i : Int) = some true := by
 induction d with
 | zero =>
  intro i k hi hk
  obtain ⟨k, rfl⟩ : ∃ m, k = m + 1 := ⟨k - 1, by omega⟩
  simp only [laws_eqNodeS.l0]
  rw [if_neg (by omega)]
 | succ d ih =>
  intro i k hi hk
  obtain ⟨k, rfl⟩ : ∃ m, k = m + 1 := ⟨k - 1, by omega⟩
  have e1 : wrap64 ((i : Int) + 1) = ((i + 1 : Nat) : Int) := by rw [wrap64_id _ (by omega) (by omega)]; omega
  simp only [laws_eqNodeS.l0]
  rewrite [if_pos (by omega), if_pos (by omega), if_pos (by omega)]
  unfold laws_eqNode.f
  rewrite [if_pos rfl, if_pos rfl]
  simp only [Option.bind_some, if_true]
  rewrite [e1]
  exact ih (i + 1) k (by omega) (by omega)
theorem eqNodes_val (k : Nat) (l : List Nd) (hl : l.length ≤ 1048576) (hk : l.length < k) : laws_eqNodeS.f k l l = some true := by
 unfold laws_eqNodeS.f
 rw [if_pos rfl]
 exact eqNodes_loop l hl l.length 0 k (by omega) hk
theorem conv_ok (l : List Nl) (h : ∀ y ∈ l, wf84 y) : okNodes (l.map conv) := by
 intro x hx
 obtain ⟨y, hy, rfl⟩ := List.mem_map.1 hx
 exact wf_u64 (h y hy).2
/-- How many rounds serve every loop over such a list. -/
def rounds (l : List Nl) : Nat := 6 * l.length + 2000
theorem runK_append (w v : Int) (t u : List Nd) : ∀ st, runK w v (t ++ u) st = (runK w v t st).bind (runK w v u) := by
 induction t with
 | nil => intro st; rfl
 | cons x t ih =>
  intro st
  simp only [List.cons_append, runK, Option.bind_assoc]
  congr 1
  funext s
  exact ih s
theorem step_head (w v : Int) (st st' : List Int) (x : Nd) (h : stepK w v st x = some st') : ∃ s, st' = (need x.f0).2.2 :: s := by
 unfold stepK at h
 split at h
 ·cases h
 ·split at h
  ·split at h
   ·cases h
   ·split at h
    ·exact ⟨_, (Option.some.inj h).symm⟩
    ·cases h
  ·cases h
theorem kindT_last (w v : Int) (t : List Nd) (h : kindT w v t > 0) : ∃ u x, t = u ++ [x] ∧ kindT w v t = (need x.f0).2.2 := by
 unfold kindT at h ⊢
 split at h
 ·rename_i hc
  rw [if_pos hc]
  obtain ⟨u, x, rfl⟩ : ∃ u x, t = u ++ [x] := by
   rcases List.eq_nil_or_concat t with h0 | ⟨u, x, h0⟩
   ·subst h0; simp at hc
   ·exact ⟨u, x, by simpa using h0⟩
  refine ⟨u, x, rfl, ?_⟩
  rw [runK_append] at h ⊢
  cases h1 : runK w v u [] with
  | none => rw [h1] at h; simp [top] at h
  | some s =>
   rw [h1] at h
   simp only [Option.bind_some, runK] at h ⊢
   cases h2 : stepK w v s x with
   | none => rw [h2] at h; simp [top] at h
   | some s2 =>
    obtain ⟨s3, rfl⟩ := step_head w v s s2 x h2
    rw [h2] at h
    simp only [Option.bind_some] at h ⊢
    match s3 with
    | [] => rfl
    | b :: r => simp [top] at h
 ·exact absurd h (by decide)
theorem kindOf_val (k : Nat) (w v : Int) (t : List Nd) (h : kindT w v t > 0) (hk : 400 < k) : impl_kindOf.f k t = some (kindT w v t) := by
 have hlen : t.length ≤ 48 := by
  unfold kindT at h
  split at h
  ·omega
  ·exact absurd h (by decide)
 obtain ⟨u, x, rfl, he⟩ := kindT_last w v t h
 rw [he]
 have e1 : wrap64 (((u ++ [x]).length : Int) - 1) = (u.length : Int) := by
  rw [wrap64_id _ (by simp only [List.length_append, List.length_cons, List.length_nil]; omega) (by omega)]; simp
 have e2 : rd_T82 (u ++ [x]) (u.length : Int) = x := by rw [rd_at (by simp)]; simp
 unfold impl_kindOf.f
 rw [e1, if_pos (by omega), if_pos (by simp only [List.length_append, List.length_cons, List.length_nil]; omega), e2, need_impl _ _ (by omega)]
 simp only [Option.bind_some]
 rw [(needI_eq x.f0).2.1]
end Go.Proofs.Ytkebpfpkohehgaa.Pure

namespace Go.Proofs.Ytkebpfpkohehgaa.Pure
open Go.RowKit Go.Proofs.Ytkebpfpkohehgaa.X Go.Proofs.YtkebpfpkohehgaaW.PrintWords Go.Proofs.YtkebpfpkohehgaaW.PrintLast Go.Proofs.Ytkebpfpkohehgaa.Bits
abbrev Ch := S80
abbrev Cl := S110
abbrev Cm := S54
abbrev Ml := S77
def convC (x : Cl) : Ch := ⟨x.f0, x.f1.map conv⟩
def convM (x : Ml) : Cm := ⟨x.f0.map conv, x.f1.map convC⟩
theorem rdCl_at {t : List Cl} {i : Nat} (h : i < t.length) : rd_T110 t (i : Int) = t[i] := by
 unfold rd_T110
 rw [Int.toNat_natCast, List.getD_eq_getElem?_getD, List.getElem?_eq_getElem h]; rfl
theorem rdMl_at {t : List Ml} {i : Nat} (h : i < t.length) : rd_T77 t (i : Int) = t[i] := by
 unfold rd_T77
 rw [Int.toNat_natCast, List.getD_eq_getElem?_getD, List.getElem?_eq_getElem h]; rfl
theorem rdCh_at {t : List Ch} {i : Nat} (h : i < t.length) : rd_T80 t (i : Int) = t[i] := by
 unfold rd_T80
 rw [Int.toNat_natCast, List.getD_eq_getElem?_getD, List.getElem?_eq_getElem h]; rfl
theorem rdCm_at {t : List Cm} {i : Nat} (h : i < t.length) : rd_T54 t (i : Int) = t[i] := by
 unfold rd_T54
 rw [Int.toNat_natCast, List.getD_eq_getElem?_getD, List.getElem?_eq_getElem h]; rfl
def szN (n : Nat) (a : Int) : Int := if a - (n : Int) < 0 then -1 else a - (n : Int)
theorem szN_ok {n : Nat} {a : Int} (h : ¬ szN n a < 0) : (n : Int) ≤ a ∧ 0 ≤ szN n a ∧ szN n a ≤ a := by
 unfold szN at h ⊢
 split at h <;> rename_i hc
 ·omega
 ·rw [if_neg hc]; omega
theorem szN_val (l : List Nl) (a : Int) (h0 : 0 ≤ a) (h1 : a ≤ 1048576) (hl : l.length ≤ 9223372036854775807) : laws_szNodeS.f l a = some (szN l.length a) := by
 unfold laws_szNodeS.f szN
 rw [wrap64_id _ (by omega) (by omega)]
 by_cases h : a - (l.length : Int) < 0
 ·rw [if_pos h, if_pos h]
 ·rw [if_neg h, if_neg h]
def szCL : List Cl → Int → Int
 | [], a => a
 | c :: t, a => if szN c.f1.length a < 0 then -1 else szCL t (szN c.f1.length a)
def szC (l : List Cl) (a : Int) : Int := if a - (l.length : Int) < 0 then -1 else szCL l (a - (l.length : Int))
theorem szCL_loop (l : List Cl) (hw : ∀ c ∈ l, c.f1.length ≤ 9223372036854775807) (hl : l.length ≤ 1048576) (d : Nat) : ∀ (i k : Nat) (a : Int), i + d = l.length → 0 ≤ a → a ≤ 1048576 → d < k →
  laws_szChangeS.l0 k l a (i : Int) = some (szCL (l.drop i) a) := by
 induction d with
 | zero =>
  intro i k a hi h0 h1 hk
  obtain ⟨k, rfl⟩ : ∃ m, k = m + 1 := ⟨k - 1, by omega⟩
  simp only [laws_szChangeS.l0]
  rw [if_neg (by omega), List.drop_eq_nil_of_le (by omega)]; rfl
 | succ d ih =>
  intro i k a hi h0 h1 hk
  obtain ⟨k, rfl⟩ : ∃ m, k = m + 1 := ⟨k - 1, by omega⟩
  have hit : i < l.length := by omega
  have e1 : wrap64 ((i : Int) + 1) = ((i + 1 : Nat) : Int) := by rw [wrap64_id _ (by omega) (by omega)]; omega
  have hm := hw l[i] (List.getElem_mem hit)
  simp only [laws_szChangeS.l0]
  rewrite [if_pos (by omega), if_pos (by omega), rdCl_at hit, List.drop_eq_getElem_cons hit]
  unfold laws_szChange.f
  rewrite [szN_val _ a h0 h1 hm]
  simp only [Option.bind_some, szCL]
  by_cases hc : szN l[i].f1.length a < 0
  ·rewrite [if_pos hc, if_pos hc]
   simp only [Option.bind_some]
   rewrite [if_pos (by decide)]; rfl
  ·have ho := szN_ok hc
   rewrite [if_neg hc, if_neg hc]
   simp only [Option.bind_some]
   rewrite [if_neg hc, e1]
   exact ih (i + 1) k _ (by omega) ho.2.1 (by omega) (by omega)
theorem szC_val (k : Nat) (l : List Cl) (a : Int) (hw : ∀ c ∈ l, c.f1.length ≤ 9223372036854775807) (hl : l.length ≤ 9223372036854775807) (h0 : 0 ≤ a) (h1 : a ≤ 1048576) (hk : 1048576 < k) : laws_szChangeS.f k l a = some (szC l a) := by
 unfold laws_szChangeS.f szC
 rw [wrap64_id _ (by omega) (by omega)]
 by_cases h : a - (l.length : Int) < 0
 ·rw [if_pos h, if_pos h]
 ·rw [if_neg h, if_neg h]
  exact szCL_loop l hw (by omega) l.length 0 k _ (by omega) (by omega) (by omega) (by omega)
theorem szCL_ok (l : List Cl) : ∀ a, 0 ≤ a → ¬ szCL l a < 0 → szCL l a ≤ a ∧ ∀ c ∈ l, (c.f1.length : Int) ≤ a := by
 induction l with
 | nil => intro a h0 h; exact ⟨Int.le_refl _, by simp⟩
 | cons c t ih =>
  intro a h0 h
  simp only [szCL] at h ⊢
  by_cases hc : szN c.f1.length a < 0
  ·rw [if_pos hc] at h; exact absurd h (by decide)
  ·rw [if_neg hc] at h ⊢
   have ho := szN_ok hc
   have hi := ih _ ho.2.1 h
   refine ⟨by omega, fun d hd => ?_⟩
   rcases List.mem_cons.1 hd with rfl | hd
   ·exact ho.1
   ·have := hi.2 d hd; omega
theorem szC_ok {l : List Cl} {a : Int} (h : ¬ szC l a < 0) : szC l a ≤ a ∧ (l.length : Int) ≤ a ∧ ∀ c ∈ l, (c.f1.length : Int) ≤ a := by
 unfold szC at h ⊢
 by_cases hc : a - (l.length : Int) < 0
 ·rw [if_pos hc] at h; exact absurd h (by decide)
 ·rw [if_neg hc] at h ⊢
  have := szCL_ok l _ (by omega) h
  exact ⟨by omega, by omega, fun c hc => by have := this.2 c hc; omega⟩
def szM (c : Ml) (a : Int) : Int := if szN c.f0.length a < 0 then -1 else if szC c.f1 (szN c.f0.length a) < 0 then -1 else szC c.f1 (szN c.f0.length a)
theorem szM_val (k : Nat) (c : Ml) (a : Int) (hw0 : c.f0.length ≤ 9223372036854775807) (hw1 : c.f1.length ≤ 9223372036854775807) (hw : ∀ d ∈ c.f1, d.f1.length ≤ 9223372036854775807) (h0 : 0 ≤ a) (h1 : a ≤ 1048576) (hk : 1048576 < k) :
  laws_szCommand.f k c.f0 c.f1 a = some (szM c a) := by
 unfold laws_szCommand.f szM
 rewrite [szN_val _ a h0 h1 hw0]
 simp only [Option.bind_some]
 by_cases hc : szN c.f0.length a < 0
 ·rw [if_pos hc, if_pos hc]
 ·have ho := szN_ok hc
  rewrite [if_neg hc, if_neg hc, szC_val k _ _ hw hw1 ho.2.1 (by omega) hk]
  simp only [Option.bind_some]
  by_cases hd : szC c.f1 (szN c.f0.length a) < 0
  ·rw [if_pos hd, if_pos hd]
  ·rw [if_neg hd, if_neg hd]
theorem szM_ok {c : Ml} {a : Int} (h : ¬ szM c a < 0) : 0 ≤ szM c a ∧ szM c a ≤ a ∧ (c.f0.length : Int) ≤ a ∧ (c.f1.length : Int) ≤ a ∧ ∀ d ∈ c.f1, (d.f1.length : Int) ≤ a := by
 unfold szM at h ⊢
 by_cases hc : szN c.f0.length a < 0
 ·rw [if_pos hc] at h; exact absurd h (by decide)
 ·have ho := szN_ok hc
  rw [if_neg hc] at h ⊢
  by_cases hd : szC c.f1 (szN c.f0.length a) < 0
  ·rw [if_pos hd] at h; exact absurd h (by decide)
  ·rw [if_neg hd]
   have h2 := szC_ok hd
   exact ⟨by omega, by omega, by omega, by omega, fun d hd => by have := h2.2.2 d hd; omega⟩
def szML : List Ml → Int → Int
 | [], a => a
 | c :: t, a => if szM c a < 0 then -1 else szML t (szM c a)
def wide3 (l : List Ml) : Prop := ∀ c ∈ l, c.f0.length ≤ 9223372036854775807 ∧ c.f1.length ≤ 9223372036854775807 ∧ ∀ d ∈ c.f1, d.f1.length ≤ 9223372036854775807
theorem szML_loop (l : List Ml) (hw : wide3 l) (hl : l.length ≤ 1048576) (d : Nat) : ∀ (i k : Nat) (a : Int), i + d = l.length → 0 ≤ a → a ≤ 1048576 → d + 1048576 < k →
  laws_szCommandS.l0 k l a (i : Int) = some (szML (l.drop i) a) := by
 induction d with
 | zero =>
  intro i k a hi h0 h1 hk
  obtain ⟨k, rfl⟩ : ∃ m, k = m + 1 := ⟨k - 1, by omega⟩
  simp only [laws_szCommandS.l0]
  rw [if_neg (by omega), List.drop_eq_nil_of_le (by omega)]; rfl
 | succ d ih =>
  intro i k a hi h0 h1 hk
  obtain ⟨k, rfl⟩ : ∃ m, k = m + 1 := ⟨k - 1, by omega⟩
  have hit : i < l.length := by omega
  have e1 : wrap64 ((i : Int) + 1) = ((i + 1 : Nat) : Int) := by rw [wrap64_id _ (by omega) (by omega)]; omega
  have hm := hw l[i] (List.getElem_mem hit)
  simp only [laws_szCommandS.l0]
  rewrite [if_pos (by omega), if_pos (by omega), rdMl_at hit, List.drop_eq_getElem_cons hit, szM_val k _ a hm.1 hm.2.1 hm.2.2 h0 h1 (by omega)]
  simp only [Option.bind_some, szML]
  by_cases hc : szM l[i] a < 0
  ·rw [if_pos hc, if_pos hc]
  ·have ho := szM_ok hc
   rewrite [if_neg hc, if_neg hc, e1]
   exact ih (i + 1) k _ (by omega) ho.1 (by omega) (by omega)
def szP (s : List Nl) (l : List Ml) (a : Int) : Int :=
 if szN s.length a < 0 then -1 else if (if szN s.length a - (l.length : Int) < 0 then -1 else szML l (szN s.length a - (l.length : Int))) < 0 then -1 else (if szN s.length a - (l.length : Int) < 0 then -1 else szML l (szN s.length a - (l.length : Int)))
theorem szP_val (k : Nat) (w v : Int) (s : List Nl) (l : List Ml) (hs : s.length ≤ 9223372036854775807) (hl : l.length ≤ 9223372036854775807) (hw : wide3 l) (hk : 2097152 < k) : laws_szProgram.f k w v s l 1048576 = some (szP s l 1048576) := by
 unfold laws_szProgram.f szP
 rewrite [szN_val _ _ (by decide) (by decide) hs]
 simp only [Option.bind_some]
 by_cases hc : szN s.length 1048576 < 0
 ·rw [if_pos hc, if_pos hc]
 ·have ho := szN_ok hc
  rewrite [if_neg hc, if_neg hc]
  unfold laws_szCommandS.f
  rewrite [wrap64_id _ (by omega) (by omega)]
  by_cases hd : szN s.length 1048576 - (l.length : Int) < 0
  ·simp only [if_pos hd, Option.bind_some]; rfl
  ·simp only [if_neg hd]
   have hz : laws_szCommandS.l0 k l (szN s.length 1048576 - (l.length : Int)) 0 = some (szML l (szN s.length 1048576 - (l.length : Int))) := szML_loop l hw (by omega) l.length 0 k _ (by omega) (by omega) (by omega) (by omega)
   rewrite [hz]
   simp only [Option.bind_some]
   by_cases he : szML l (szN s.length 1048576 - (l.length : Int)) < 0
   ·rw [if_pos he, if_pos he]
   ·rw [if_neg he, if_neg he]
def fitsP (s : List Nl) (l : List Ml) : Prop := s.length ≤ 1048576 ∧ l.length ≤ 1048576 ∧ ∀ c ∈ l, c.f0.length ≤ 1048576 ∧ c.f1.length ≤ 1048576 ∧ ∀ d ∈ c.f1, d.f1.length ≤ 1048576
theorem szML_ok (l : List Ml) : ∀ a, 0 ≤ a → ¬ szML l a < 0 → ∀ c ∈ l, (c.f0.length : Int) ≤ a ∧ (c.f1.length : Int) ≤ a ∧ ∀ d ∈ c.f1, (d.f1.length : Int) ≤ a := by
 induction l with
 | nil => intro a h0 h c hc; exact absurd hc (by simp)
 | cons c t ih =>
  intro a h0 h
  simp only [szML] at h
  by_cases hc : szM c a < 0
  ·rw [if_pos hc] at h; exact absurd h (by decide)
  ·rw [if_neg hc] at h
   have ho := szM_ok hc
   have hi := ih _ ho.1 h
   intro d hd
   rcases List.mem_cons.1 hd with rfl | hd
   ·exact ⟨ho.2.2.1, ho.2.2.2.1, ho.2.2.2.2⟩
   ·have h3 := hi d hd
    exact ⟨by omega, by omega, fun e he => by have := h3.2.2 e he; omega⟩
theorem szP_ok {s : List Nl} {l : List Ml} (h : ¬ szP s l 1048576 < 0) : fitsP s l := by
 unfold szP at h
 by_cases hc : szN s.length 1048576 < 0
 ·rw [if_pos hc] at h; exact absurd h (by decide)
 ·have ho := szN_ok hc
  rw [if_neg hc] at h
  by_cases hd : szN s.length 1048576 - (l.length : Int) < 0
  ·simp only [if_pos hd] at h; exact absurd h (by decide)
  ·simp only [if_neg hd] at h
   by_cases he : szML l (szN s.length 1048576 - (l.length : Int)) < 0
   ·rw [if_pos he] at h; exact absurd h (by decide)
   ·have h3 := szML_ok l _ (by omega) he
    exact ⟨by omega, by omega, fun c hcm => by have h4 := h3 c hcm; exact ⟨by omega, by omega, fun d hd => by have := h4.2.2 d hd; omega⟩⟩
theorem toC_loop (l : List Cl) (hl : l.length ≤ 1048576) (hw : ∀ c ∈ l, c.f1.length ≤ 1048576) (d : Nat) : ∀ (i k : Nat), i + d = l.length → d + 1048576 < k →
  laws_toChangeS.l0 k l ((l.take i).map convC ++ List.replicate d z80) (i : Int) = some (l.map convC) := by
 induction d with
 | zero =>
  intro i k hi hk
  obtain ⟨k, rfl⟩ : ∃ m, k = m + 1 := ⟨k - 1, by omega⟩
  simp only [laws_toChangeS.l0]
  rw [if_neg (by omega), List.take_of_length_le (by omega)]
  simp
 | succ d ih =>
  intro i k hi hk
  obtain ⟨k, rfl⟩ : ∃ m, k = m + 1 := ⟨k - 1, by omega⟩
  have hit : i < l.length := by omega
  have e1 : wrap64 ((i : Int) + 1) = ((i + 1 : Nat) : Int) := by rw [wrap64_id _ (by omega) (by omega)]; omega
  have hm := hw l[i] (List.getElem_mem hit)
  simp only [laws_toChangeS.l0]
  rewrite [if_pos (by omega), if_pos (by omega), rdCl_at hit]
  unfold laws_toChange.f
  rewrite [toNodes_val k _ hm (by omega)]
  simp only [Option.bind_some]
  rewrite [if_pos (by simp; omega), e1, Int.toNat_natCast, List.replicate_succ, set_mid _ _ _ _ _ (by simp; omega)]
  have h2 : (l.take i).map convC ++ (⟨l[i].f0, l[i].f1.map conv⟩ : Ch) :: List.replicate d z80 = (l.take (i + 1)).map convC ++ List.replicate d z80 := by
   rw [List.take_add_one, List.getElem?_eq_getElem hit, Option.toList_some, List.map_append, List.append_assoc]
   rfl
  rewrite [h2]
  exact ih (i + 1) k (by omega) (by omega)
theorem toC_val (k : Nat) (l : List Cl) (hl : l.length ≤ 1048576) (hw : ∀ c ∈ l, c.f1.length ≤ 1048576) (hk : 2097152 < k) : laws_toChangeS.f k l = some (l.map convC) := by
 unfold laws_toChangeS.f
 rw [if_pos (by omega), Int.toNat_natCast, if_pos (by omega)]
 have := toC_loop l hl hw l.length 0 k (by omega) (by omega)
 simpa using this
theorem toM_loop (l : List Ml) (hl : l.length ≤ 1048576) (hw : ∀ c ∈ l, c.f0.length ≤ 1048576 ∧ c.f1.length ≤ 1048576 ∧ ∀ d ∈ c.f1, d.f1.length ≤ 1048576) (d : Nat) : ∀ (i k : Nat), i + d = l.length → d + 2097152 < k →
  laws_toCommandS.l0 k l ((l.take i).map convM ++ List.replicate d z54) (i : Int) = some (l.map convM) := by
 induction d with
 | zero =>
  intro i k hi hk
  obtain ⟨k, rfl⟩ : ∃ m, k = m + 1 := ⟨k - 1, by omega⟩
  simp only [laws_toCommandS.l0]
  rw [if_neg (by omega), List.take_of_length_le (by omega)]
  simp
 | succ d ih =>
  intro i k hi hk
  obtain ⟨k, rfl⟩ : ∃ m, k = m + 1 := ⟨k - 1, by omega⟩
  have hit : i < l.length := by omega
  have e1 : wrap64 ((i : Int) + 1) = ((i + 1 : Nat) : Int) := by rw [wrap64_id _ (by omega) (by omega)]; omega
  have hm := hw l[i] (List.getElem_mem hit)
  simp only [laws_toCommandS.l0]
  rewrite [if_pos (by omega), if_pos (by omega), rdMl_at hit]
  unfold laws_toCommand.f
  rewrite [toNodes_val k _ hm.1 (by omega)]
  simp only [Option.bind_some]
  rewrite [toC_val k _ hm.2.1 hm.2.2 (by omega)]
  simp only [Option.bind_some]
  rewrite [if_pos (by simp; omega), e1, Int.toNat_natCast, List.replicate_succ, set_mid _ _ _ _ _ (by simp; omega)]
  have h2 : (l.take i).map convM ++ (⟨l[i].f0.map conv, l[i].f1.map convC⟩ : Cm) :: List.replicate d z54 = (l.take (i + 1)).map convM ++ List.replicate d z54 := by
   rw [List.take_add_one, List.getElem?_eq_getElem hit, Option.toList_some, List.map_append, List.append_assoc]
   rfl
  rewrite [h2]
  exact ih (i + 1) k (by omega) (by omega)
theorem toP_val (k : Nat) (w v : Int) (s : List Nl) (l : List Ml) (h : fitsP s l) (hk : 4000000 < k) : laws_toProgram.f k w v s l = some (w, v, s.map conv, l.map convM) := by
 unfold laws_toProgram.f
 rewrite [toNodes_val k s h.1 (by have := h.1; omega)]
 simp only [Option.bind_some]
 unfold laws_toCommandS.f
 rewrite [if_pos (by omega), Int.toNat_natCast, if_pos (by have := h.2.1; omega)]
 have := toM_loop l h.2.1 h.2.2 l.length 0 k (by omega) (by have := h.2.1; omega)
 rewrite [show laws_toCommandS.l0 k l (List.replicate l.length z54) 0 = some (l.map convM) from this]
 rfl
theorem eqC_loop (l : List Ch) (hl : l.length ≤ 1048576) (hw : ∀ c ∈ l, c.f1.length ≤ 1048576) (d : Nat) : ∀ (i k : Nat), i + d = l.length → d + 1048576 < k → laws_eqChangeS.l0 k l l (i : Int) = some true := by
 induction d with
 | zero =>
  intro i k hi hk
  obtain ⟨k, rfl⟩ : ∃ m, k = m + 1 := ⟨k - 1, by omega⟩
  simp only [laws_eqChangeS.l0]
  rw [if_neg (by omega)]
 | succ d ih =>
  intro i k hi hk
  obtain ⟨k, rfl⟩ : ∃ m, k = m + 1 := ⟨k - 1, by omega⟩
  have hit : i < l.length := by omega
  have e1 : wrap64 ((i : Int) + 1) = ((i + 1 : Nat) : Int) := by rw [wrap64_id _ (by omega) (by omega)]; omega
  have hm := hw l[i] (List.getElem_mem hit)
  simp only [laws_eqChangeS.l0]
  rewrite [if_pos (by omega), if_pos (by omega), if_pos (by omega), rdCh_at hit]
  unfold laws_eqChange.f
  rewrite [if_pos rfl, eqNodes_val k _ hm (by omega)]
  simp only [Option.bind_some, if_true]
  rewrite [e1]
  exact ih (i + 1) k (by omega) (by omega)
theorem eqC_val (k : Nat) (l : List Ch) (hl : l.length ≤ 1048576) (hw : ∀ c ∈ l, c.f1.length ≤ 1048576) (hk : 2097152 < k) : laws_eqChangeS.f k l l = some true := by
 unfold laws_eqChangeS.f
 rw [if_pos rfl]
 exact eqC_loop l hl hw l.length 0 k (by omega) (by omega)
theorem eqM_loop (l : List Cm) (hl : l.length ≤ 1048576) (hw : ∀ c ∈ l, c.f0.length ≤ 1048576 ∧ c.f1.length ≤ 1048576 ∧ ∀ d ∈ c.f1, d.f1.length ≤ 1048576) (d : Nat) : ∀ (i k : Nat), i + d = l.length → d + 2097152 < k → laws_eqCommandS.l0 k l l (i : Int) = some true := by
 induction d with
 | zero =>
  intro i k hi hk
  obtain ⟨k, rfl⟩ : ∃ m, k = m + 1 := ⟨k - 1, by omega⟩
  simp only [laws_eqCommandS.l0]
  rw [if_neg (by omega)]
 | succ d ih =>
  intro i k hi hk
  obtain ⟨k, rfl⟩ : ∃ m, k = m + 1 := ⟨k - 1, by omega⟩
  have hit : i < l.length := by omega
  have e1 : wrap64 ((i : Int) + 1) = ((i + 1 : Nat) : Int) := by rw [wrap64_id _ (by omega) (by omega)]; omega
  have hm := hw l[i] (List.getElem_mem hit)
  simp only [laws_eqCommandS.l0]
  rewrite [if_pos (by omega), if_pos (by omega), if_pos (by omega), rdCm_at hit]
  unfold laws_eqCommand.f
  rewrite [eqNodes_val k _ hm.1 (by omega)]
  simp only [Option.bind_some, if_true]
  rewrite [eqC_val k _ hm.2.1 hm.2.2 (by omega)]
  simp only [Option.bind_some, if_true]
  rewrite [e1]
  exact ih (i + 1) k (by omega) (by omega)
theorem fits_conv {s : List Nl} {l : List Ml} (h : fitsP s l) : ∀ c ∈ l.map convM, c.f0.length ≤ 1048576 ∧ c.f1.length ≤ 1048576 ∧ ∀ d ∈ c.f1, d.f1.length ≤ 1048576 := by
 intro c hc
 obtain ⟨y, hy, rfl⟩ := List.mem_map.1 hc
 have h2 := h.2.2 y hy
 refine ⟨by simp only [convM, List.length_map]; exact h2.1, by simp only [convM, List.length_map]; exact h2.2.1, fun d hd => ?_⟩
 obtain ⟨z, hz, rfl⟩ := List.mem_map.1 hd
 simp only [convC, List.length_map]
 exact h2.2.2 z hz
theorem eqP_val (k : Nat) (w v : Int) (s : List Nl) (l : List Ml) (h : fitsP s l) (hk : 4000000 < k) : laws_eqProgram.f k w v (s.map conv) (l.map convM) w v (s.map conv) (l.map convM) = some true := by
 unfold laws_eqProgram.f
 rewrite [if_pos rfl, if_pos rfl, eqNodes_val k _ (by rw [List.length_map]; exact h.1) (by rw [List.length_map]; have := h.1; omega)]
 simp only [Option.bind_some, if_true]
 unfold laws_eqCommandS.f
 rewrite [if_pos rfl]
 have := eqM_loop (l.map convM) (by rw [List.length_map]; exact h.2.1) (fits_conv h) (l.map convM).length 0 k (by omega) (by rw [List.length_map]; have := h.2.1; omega)
 rewrite [show laws_eqCommandS.l0 k (l.map convM) (l.map convM) 0 = some true from this]
 rfl
end Go.Proofs.Ytkebpfpkohehgaa.Pure

namespace Go.Proofs.Ytkebpfpkohehgaa.Pure
open Go.RowKit Go.Proofs.Ytkebpfpkohehgaa.X Go.Proofs.YtkebpfpkohehgaaW.PrintWords Go.Proofs.YtkebpfpkohehgaaW.PrintLast Go.Proofs.Ytkebpfpkohehgaa.Bits

theorem isTermOf_val (k : Nat) (w v : Int) (t : List Nd) (kd : Int) (hok : okNodes t) (hkd : 0 < kd) (hk : 400 < k) : impl_isTermOf.f k w v t kd = some (kindT w v t == kd) := by
 unfold impl_isTermOf.f
 rewrite [goodTerm_impl k w v t hok hk]
 simp only [Option.bind_some, decide_eq_true_eq]
 by_cases hg : kindT w v t > 0
 ·rewrite [if_pos hg, kindOf_val k w v t hg hk]; rfl
 ·rewrite [if_neg hg]
  have : (kindT w v t == kd) = false := beq_eq_false_iff_ne.mpr (by omega)
  rw [this]
/-- The changes of a command, behind a variable. -/
def chB (w v : Int) : Int → List Ch → Bool
 | _, [] => true
 | p, c :: t => decide (0 ≤ c.f0) && (decide (c.f0 < v) && (decide (p < c.f0) && ((kindT w v c.f1 == 1) && chB w v c.f0 t)))
theorem chB_len (w v : Int) (l : List Ch) : ∀ p, -1 ≤ p → p < v → chB w v p l = true → (l.length : Int) + p + 1 ≤ v := by
 induction l with
 | nil => intro p h0 h1 _; simp; omega
 | cons c t ih =>
  intro p h0 h1 h
  simp only [chB, Bool.and_eq_true, decide_eq_true_eq] at h
  have := ih c.f0 (by omega) h.2.1 h.2.2.2.2
  simp only [List.length_cons]
  omega
def okC (l : List Ch) : Prop := ∀ c ∈ l, okNodes c.f1 ∧ -9223372036854775808 ≤ c.f0 ∧ c.f0 ≤ 9223372036854775807
def prev (l : List Ch) (i : Nat) : Int := if i = 0 then -1 else (l.getD (i - 1) z80).f0
theorem prev_succ {l : List Ch} {i : Nat} (h : i < l.length) : prev l (i + 1) = l[i].f0 := by
 unfold prev
 rw [if_neg (by omega), Nat.add_sub_cancel, List.getD_eq_getElem?_getD, List.getElem?_eq_getElem h]; rfl
theorem prev_rd {l : List Ch} {i : Nat} (h : i < l.length) (hl : l.length ≤ 1048576) (hi : 0 < i) : (rd_T80 l (wrap64 ((i : Int) - 1))).f0 = prev l i := by
 obtain ⟨j, rfl⟩ : ∃ j, i = j + 1 := ⟨i - 1, by omega⟩
 have e : wrap64 (((j + 1 : Nat) : Int) - 1) = (j : Int) := by rw [wrap64_id _ (by omega) (by omega)]; omega
 rw [prev_succ (by omega), e, rdCh_at (by omega)]
theorem spec_cmd_loop (w v : Int) (s : List Nd) (cs : List Cm) (wh : List Nd) (l : List Ch) (hv0 : -9223372036854775807 ≤ v) (hv : v ≤ 9223372036854775807) (hok : okC l) (hl : l.length ≤ 1048576) (d : Nat) : ∀ (i k : Nat), i + d = l.length → d + 401 < k →
  spec_l7Command.l0 k l (l.length : Int) (i : Int) w v s cs wh l = some (chB w v (prev l i) (l.drop i)) := by
 induction d with
 | zero =>
  intro i k hi hk
  obtain ⟨k, rfl⟩ : ∃ m, k = m + 1 := ⟨k - 1, by omega⟩
  simp only [spec_l7Command.l0]
  rw [if_neg (by omega), List.drop_eq_nil_of_le (by omega)]; rfl
 | succ d ih =>
  intro i k hi hk
  obtain ⟨k, rfl⟩ : ∃ m, k = m + 1 := ⟨k - 1, by omega⟩
  have hit : i < l.length := by omega
  have e1 : wrap64 ((i : Int) + 1) = ((i + 1 : Nat) : Int) := by rw [wrap64_id _ (by omega) (by omega)]; omega
  have hm := hok l[i] (List.getElem_mem hit)
  have hnext := ih (i + 1) k (by omega) (by omega)
  rw [prev_succ hit] at hnext
  have hl1 : spec_l1In.f l[i].f0 0 (wrap64 (v - 1)) = some (decide (0 ≤ l[i].f0 ∧ l[i].f0 < v)) := by
   rw [l1In_val, wrap64_id _ (by omega) (by omega)]
   congr 1
   rw [Bool.eq_iff_iff]; simp only [decide_eq_true_eq]; omega
  simp only [spec_l7Command.l0]
  rewrite [if_pos (by omega), if_pos (by omega), if_pos (by omega), rdCh_at hit, hl1, List.drop_eq_getElem_cons hit]
  simp only [Option.bind_some, chB, decide_eq_true_eq]
  by_cases h1 : 0 ≤ l[i].f0 ∧ l[i].f0 < v
  ·rewrite [if_pos h1, decide_eq_true h1.1, decide_eq_true h1.2, Bool.true_and, Bool.true_and]
   have hkind : ∀ (hp : prev l i < l[i].f0), (spec_l2Kind.f k w v l[i].f1).bind (fun t => if t = 1 then spec_l7Command.l0 k l (l.length : Int) (wrap64 ((i : Int) + 1)) w v s cs wh l else some false) = some (decide (prev l i < l[i].f0) && ((kindT w v l[i].f1 == 1) && chB w v l[i].f0 (l.drop (i + 1)))) := by
    intro hp
    rewrite [l2Kind_val k w v _ hm.1 (by omega), decide_eq_true hp, Bool.true_and]
    simp only [Option.bind_some]
    by_cases hq : kindT w v l[i].f1 = 1
    ·have : (kindT w v l[i].f1 == 1) = true := beq_iff_eq.mpr hq
     rewrite [if_pos hq, e1, hnext, this, Bool.true_and]; rfl
    ·have : (kindT w v l[i].f1 == 1) = false := beq_eq_false_iff_ne.mpr hq
     rewrite [if_neg hq, this, Bool.false_and]; rfl
   by_cases hi0 : 0 < i
   ·have e2 : wrap64 ((i : Int) - 1) = (i : Int) - 1 := wrap64_id _ (by omega) (by omega)
    rewrite [if_pos (by omega), if_pos (by rw [e2]; omega), if_pos (by rw [e2]; omega), prev_rd hit hl hi0]
    by_cases hp : prev l i < l[i].f0
    ·rewrite [if_neg (by omega)]; exact hkind hp
    ·rewrite [if_pos (by omega), decide_eq_false hp, Bool.false_and]; rfl
   ·have hp : prev l i < l[i].f0 := by unfold prev; rw [if_pos (by omega)]; omega
    rewrite [if_neg (by omega)]
    exact hkind hp
  ·rewrite [if_neg h1]
   by_cases h2 : 0 ≤ l[i].f0
   ·rewrite [decide_eq_true h2, decide_eq_false (by omega), Bool.true_and, Bool.false_and]; rfl
   ·rewrite [decide_eq_false h2, Bool.false_and]; rfl
theorem impl_cmd_loop (w v : Int) (s : List Nd) (cs : List Cm) (wh : List Nd) (l : List Ch) (hok : okC l) (hl : l.length ≤ 1048576) (d : Nat) : ∀ (i k : Nat), i + d = l.length → d + 401 < k →
  impl_Program_isCommand.l0 k l (l.length : Int) (i : Int) w v s cs wh l = some (chB w v (prev l i) (l.drop i)) := by
 induction d with
 | zero =>
  intro i k hi hk
  obtain ⟨k, rfl⟩ : ∃ m, k = m + 1 := ⟨k - 1, by omega⟩
  simp only [impl_Program_isCommand.l0]
  rw [if_neg (by omega), List.drop_eq_nil_of_le (by omega)]; rfl
 | succ d ih =>
  intro i k hi hk
  obtain ⟨k, rfl⟩ : ∃ m, k = m + 1 := ⟨k - 1, by omega⟩
  have hit : i < l.length := by omega
  have e1 : wrap64 ((i : Int) + 1) = ((i + 1 : Nat) : Int) := by rw [wrap64_id _ (by omega) (by omega)]; omega
  have hm := hok l[i] (List.getElem_mem hit)
  have hnext := ih (i + 1) k (by omega) (by omega)
  rw [prev_succ hit] at hnext
  simp only [impl_Program_isCommand.l0]
  rewrite [if_pos (by omega), if_pos (by omega), if_pos (by omega), rdCh_at hit, List.drop_eq_getElem_cons hit]
  simp only [chB]
  by_cases h1 : l[i].f0 < 0
  ·rewrite [if_pos h1, decide_eq_false (by omega), Bool.false_and]; rfl
  by_cases h2 : l[i].f0 ≥ v
  ·rewrite [if_neg h1, if_pos h2, decide_eq_true (by omega), decide_eq_false (by omega), Bool.true_and, Bool.false_and]; rfl
  rewrite [if_neg h1, if_neg h2, decide_eq_true (by omega), decide_eq_true (by omega), Bool.true_and, Bool.true_and]
  have hkind : ∀ (hp : prev l i < l[i].f0), (impl_isTermOf.f k w v l[i].f1 1).bind (fun t => if t = true then impl_Program_isCommand.l0 k l (l.length : Int) (wrap64 ((i : Int) + 1)) w v s cs wh l else some false) = some (decide (prev l i < l[i].f0) && ((kindT w v l[i].f1 == 1) && chB w v l[i].f0 (l.drop (i + 1)))) := by
   intro hp
   rewrite [isTermOf_val k w v _ 1 hm.1 (by decide) (by omega), decide_eq_true hp, Bool.true_and]
   simp only [Option.bind_some]
   by_cases hq : (kindT w v l[i].f1 == 1) = true
   ·rewrite [if_pos hq, e1, hnext, hq, Bool.true_and]; rfl
   ·rewrite [if_neg hq, Bool.eq_false_iff.mpr hq, Bool.false_and]; rfl
  by_cases hi0 : 0 < i
  ·have e2 : wrap64 ((i : Int) - 1) = (i : Int) - 1 := wrap64_id _ (by omega) (by omega)
   rewrite [if_pos (by omega), if_pos (by rw [e2]; omega), if_pos (by rw [e2]; omega), prev_rd hit hl hi0]
   by_cases hp : prev l i < l[i].f0
   ·rewrite [if_neg (by omega)]; exact hkind hp
   ·rewrite [if_pos (by omega), decide_eq_false hp, Bool.false_and]; rfl
  ·have hp : prev l i < l[i].f0 := by unfold prev; rw [if_pos (by omega)]; omega
   rewrite [if_neg (by omega)]
   exact hkind hp
def cmB (w v : Int) (c : Cm) : Bool := (kindT w v c.f0 == 2) && chB w v (-1) c.f1
def okM (l : List Cm) : Prop := ∀ c ∈ l, okNodes c.f0 ∧ okC c.f1 ∧ c.f1.length ≤ 1048576
theorem kind_range {w v : Int} {t : List Nd} (h : kindT w v t > 0) : 1 ≤ w ∧ w ≤ 64 ∧ 1 ≤ v ∧ v ≤ 4 := by
 unfold kindT at h
 split at h
 ·rename_i hc; exact ⟨hc.1, hc.2.1, hc.2.2.1, hc.2.2.2.1⟩
 ·exact absurd h (by decide)
theorem cmd_spec (k : Nat) (w v : Int) (s : List Nd) (cs : List Cm) (c : Cm) (h0 : okNodes c.f0) (h1 : okC c.f1) (hl : c.f1.length ≤ 1048576) (hk : 1048980 < k) : spec_l7Command.f k w v s cs c.f0 c.f1 = some (cmB w v c) := by
 obtain ⟨k, rfl⟩ : ∃ m, k = m + 1 := ⟨k - 1, by omega⟩
 unfold spec_l7Command.f spec_l7Asks.f cmB
 rewrite [l2Kind_val (k + 1) w v _ h0 (by omega)]
 simp only [Option.bind_some]
 by_cases hq : (kindT w v c.f0 == 2) = true
 ·have hr := kind_range (w := w) (v := v) (t := c.f0) (by rw [beq_iff_eq.mp hq]; decide)
  rewrite [if_pos hq, hq, Bool.true_and]
  simp only [spec_l7Command.j0]
  have hp : prev c.f1 0 = -1 := by unfold prev; rw [if_pos rfl]
  by_cases hn : (c.f1.length : Int) > v
  ·rewrite [if_pos (decide_eq_true hn)]
   have : chB w v (-1) c.f1 = false := by
    by_cases hb : chB w v (-1) c.f1 = true
    ·have := chB_len w v c.f1 (-1) (by omega) (by omega) hb
     omega
    ·exact Bool.eq_false_iff.mpr hb
   rw [this]
  ·rewrite [if_neg (by simpa using hn)]
   have := spec_cmd_loop w v s cs c.f0 c.f1 (by omega) (by omega) h1 hl c.f1.length 0 k (by omega) (by omega)
   rw [hp] at this
   exact this
 ·rewrite [if_neg hq, Bool.eq_false_iff.mpr hq, Bool.false_and]
  simp only [spec_l7Command.j0, if_true]
theorem cond_impl (k : Nat) (w v : Int) (s : List Nd) (cs : List Cm) (t : List Nd) (hok : okNodes t) (hk : 400 < k) : impl_Program_isCondition.f k w v s cs t = some (kindT w v t == 2) := by
 unfold impl_Program_isCondition.f
 rewrite [isTermOf_val k w v t 2 hok (by decide) hk]; rfl
theorem cmd_impl (k : Nat) (w v : Int) (s : List Nd) (cs : List Cm) (c : Cm) (h0 : okNodes c.f0) (h1 : okC c.f1) (hl : c.f1.length ≤ 1048576) (hk : 1048980 < k) : impl_Program_isCommand.f k w v s cs c.f0 c.f1 = some (cmB w v c) := by
 unfold impl_Program_isCommand.f cmB
 rewrite [cond_impl k w v s cs c.f0 h0 (by omega)]
 simp only [Option.bind_some]
 by_cases hq : (kindT w v c.f0 == 2) = true
 ·have hp : prev c.f1 0 = -1 := by unfold prev; rw [if_pos rfl]
  rewrite [if_pos hq, hq, Bool.true_and]
  have := impl_cmd_loop w v s cs c.f0 c.f1 h1 hl c.f1.length 0 k (by omega) (by omega)
  rw [hp] at this
  exact this
 ·rewrite [if_neg hq, Bool.eq_false_iff.mpr hq, Bool.false_and]; rfl
def prB (w v : Int) (s : List Nd) (l : List Cm) : Bool := (kindT w v s == 2) && (decide (1 ≤ (l.length : Int) ∧ (l.length : Int) ≤ 6) && l.all (cmB w v))
theorem spec_prog_loop (w v : Int) (s : List Nd) (l : List Cm) (hok : okM l) (hl : l.length ≤ 6) (d : Nat) : ∀ (i k : Nat), i + d = l.length → d + 1048981 < k →
  spec_GoodProgram.l0 k l (l.length : Int) (i : Int) w v s l = some ((l.drop i).all (cmB w v)) := by
 induction d with
 | zero =>
  intro i k hi hk
  obtain ⟨k, rfl⟩ : ∃ m, k = m + 1 := ⟨k - 1, by omega⟩
  simp only [spec_GoodProgram.l0]
  rw [if_neg (by omega), List.drop_eq_nil_of_le (by omega)]; rfl
 | succ d ih =>
  intro i k hi hk
  obtain ⟨k, rfl⟩ : ∃ m, k = m + 1 := ⟨k - 1, by omega⟩
  have hit : i < l.length := by omega
  have e1 : wrap64 ((i : Int) + 1) = ((i + 1 : Nat) : Int) := by rw [wrap64_id _ (by omega) (by omega)]; omega
  have hm := hok l[i] (List.getElem_mem hit)
  simp only [spec_GoodProgram.l0]
  rewrite [if_pos (by omega), if_pos (by omega), if_pos (by omega), rdCm_at hit, cmd_spec k w v s l l[i] hm.1 hm.2.1 hm.2.2 (by omega), List.drop_eq_getElem_cons hit]
  simp only [Option.bind_some, List.all_cons]
  by_cases hq : cmB w v l[i] = true
  ·rewrite [if_pos hq, e1, ih (i + 1) k (by omega) (by omega), hq, Bool.true_and]; rfl
  ·rewrite [if_neg hq, Bool.eq_false_iff.mpr hq, Bool.false_and]; rfl
theorem prog_spec (k : Nat) (w v : Int) (s : List Nd) (l : List Cm) (h0 : okNodes s) (hok : okM l) (hk : 1049000 < k) : spec_GoodProgram.f k w v s l = some (prB w v s l) := by
 obtain ⟨k, rfl⟩ : ∃ m, k = m + 1 := ⟨k - 1, by omega⟩
 unfold spec_GoodProgram.f spec_l7Asks.f prB
 rewrite [l2Kind_val (k + 1) w v _ h0 (by omega)]
 simp only [Option.bind_some]
 by_cases hq : (kindT w v s == 2) = true
 ·rewrite [if_pos hq, hq, Bool.true_and, l1In_val]
  simp only [Option.bind_some, spec_GoodProgram.j0]
  by_cases hn : 1 ≤ (l.length : Int) ∧ (l.length : Int) ≤ 6
  ·rewrite [decide_eq_true hn, if_neg (by decide), Bool.true_and]
   exact spec_prog_loop w v s l hok (by omega) l.length 0 k (by omega) (by omega)
  ·rewrite [decide_eq_false hn, if_pos (by decide), Bool.false_and]; rfl
 ·rewrite [if_neg hq, Bool.eq_false_iff.mpr hq, Bool.false_and]
  simp only [spec_GoodProgram.j0, if_true]
theorem any_prog (k : Nat) (w v : Int) (s : List Nd) (cs : List Cm) (l : List Cm) (hok : okM l) (hk : 1048990 < k) : impl_GoodProgram_any.f k l w v s cs = some (!(l.all (cmB w v))) := by
 unfold impl_GoodProgram_any.f
 induction l with
 | nil => rfl
 | cons c t ih =>
  have hm := hok c (by simp)
  have := ih (fun d hd => hok d (by simp [hd]))
  simp only [impl_GoodProgram_any.any, impl_GoodProgram_any.p] at this ⊢
  rewrite [cmd_impl k w v s cs c hm.1 hm.2.1 hm.2.2 (by omega)]
  simp only [Option.bind_some, List.all_cons]
  by_cases hq : cmB w v c = true
  ·rewrite [hq, if_neg (by decide), this, Bool.true_and]; rfl
  ·rewrite [Bool.eq_false_iff.mpr hq, if_pos (by decide), Bool.false_and]; rfl
theorem prog_impl (k : Nat) (w v : Int) (s : List Nd) (l : List Cm) (h0 : okNodes s) (hok : okM l) (hk : 1049000 < k) : impl_GoodProgram.f k w v s l = some (prB w v s l) := by
 unfold impl_GoodProgram.f prB
 rewrite [isWide_val, isVars_val, cond_impl k w v s l s h0 (by omega), any_prog k w v s l l hok (by omega)]
 simp only [Option.bind_some, decide_eq_true_eq, Bool.not_not]
 by_cases hq : (kindT w v s == 2) = true
 ·have hr := kind_range (w := w) (v := v) (t := s) (by rw [beq_iff_eq.mp hq]; decide)
  rewrite [if_pos ⟨hr.1, hr.2.1⟩, if_pos hr.2.2, if_pos hq, hq, Bool.true_and]
  by_cases h1 : (l.length : Int) < 1
  ·rewrite [if_pos h1, decide_eq_false (by omega), Bool.false_and]; rfl
  by_cases h2 : (l.length : Int) > 6
  ·rewrite [if_neg h1, if_pos h2, decide_eq_false (by omega), Bool.false_and]; rfl
  rewrite [if_neg h1, if_neg h2, decide_eq_true (by omega), Bool.true_and]; rfl
 ·rewrite [if_neg hq, Bool.eq_false_iff.mpr hq, Bool.false_and]
  repeat' split
  all_goals rfl
theorem conv_okM (l : List Ml) (h : ∀ y ∈ l, wf77 y) (hf : ∀ c ∈ l, c.f0.length ≤ 1048576 ∧ c.f1.length ≤ 1048576 ∧ ∀ d ∈ c.f1, d.f1.length ≤ 1048576) : okM (l.map convM) := by
 intro c hc
 obtain ⟨y, hy, rfl⟩ := List.mem_map.1 hc
 have hw := h y hy
 refine ⟨conv_ok _ hw.1.2, fun d hd => ?_, by simp only [convM, List.length_map]; exact (hf y hy).2.1⟩
 obtain ⟨z, hz, rfl⟩ := List.mem_map.1 hd
 have hz2 := hw.2.2 z hz
 exact ⟨conv_ok _ hz2.2.2, wf_i64 hz2.1⟩
theorem wf_wide {l : List Ml} (h : ∀ y ∈ l, wf77 y) : wide3 l := by
 intro c hc
 have hw := h c hc
 have h1 := hw.1.1
 have h2 := hw.2.1
 simp only [maxLen] at h1 h2
 refine ⟨h1, h2, fun d hd => ?_⟩
 have h3 := (hw.2.2 d hd).2.1
 simpa only [maxLen] using h3
end Go.Proofs.Ytkebpfpkohehgaa.Pure

namespace Go.Proofs.Ytkebpfpkohehgaa.Pure
open Go.RowKit Go.Proofs.Ytkebpfpkohehgaa.X Go.Proofs.YtkebpfpkohehgaaW.PrintWords Go.Proofs.YtkebpfpkohehgaaW.PrintLast Go.Proofs.YtkebpfpkohehgaaW.PrintMore Go.Proofs.Ytkebpfpkohehgaa.Bits
theorem eqUint64_loop (l : List Int) (hl : l.length ≤ 1048576) (d : Nat) : ∀ (i : Nat) (k : Nat), i + d = l.length → d < k → laws_eqUint64S.l0 k l l (i : Int) = some true := by
 induction d with
 | zero =>
  intro i k hi hk
  obtain ⟨k, rfl⟩ : ∃ m, k = m + 1 := ⟨k - 1, by omega⟩
  simp only [laws_eqUint64S.l0]
  rw [if_neg (by omega)]
 | succ d ih =>
  intro i k hi hk
  obtain ⟨k, rfl⟩ : ∃ m, k = m + 1 := ⟨k - 1, by omega⟩
  have e1 : wrap64 ((i : Int) + 1) = ((i + 1 : Nat) : Int) := by rw [wrap64_id _ (by omega) (by omega)]; omega
  simp only [laws_eqUint64S.l0]
  rewrite [if_pos (by omega), if_pos (by omega), if_pos (by omega)]
  rewrite [if_pos trivial]
  rewrite [e1]
  exact ih (i + 1) k (by omega) (by omega)
theorem eqUint64_val (k : Nat) (l : List Int) (hl : l.length ≤ 1048576) (hk : l.length < k) : laws_eqUint64S.f k l l = some true := by
 unfold laws_eqUint64S.f
 rw [if_pos rfl]
 exact eqUint64_loop l hl l.length 0 k (by omega) hk

end Go.Proofs.Ytkebpfpkohehgaa.Pure

namespace Go.Proofs.Ytkebpfpkohehgaa.Pure
open Go.RowKit Go.Proofs.Ytkebpfpkohehgaa.X Go.Proofs.YtkebpfpkohehgaaW.PrintWords Go.Proofs.YtkebpfpkohehgaaW.PrintLast Go.Proofs.YtkebpfpkohehgaaW.PrintMore Go.Proofs.Ytkebpfpkohehgaa.Bits
/-- A list of n elements, numbered on from m. -/
def mkUint64 (m : Int) : Nat → List Int
 | 0 => []
 | n + 1 => m :: mkUint64 (m + 1) n
theorem mkUint64_len (n : Nat) : ∀ m, (mkUint64 m n).length = n := by
 induction n with
 | zero => intro m; rfl
 | succ n ih => intro m; simp [mkUint64, ih]
theorem mkUint64_snoc (n : Nat) : ∀ m, mkUint64 m (n + 1) = mkUint64 m n ++ [m + 1 * (n : Int)] := by
 induction n with
 | zero => intro m; simp [mkUint64]
 | succ n ih =>
  intro m
  rw [mkUint64, ih (m + 1), mkUint64, List.cons_append]
  have : m + 1 + 1 * (n : Int) = m + 1 * ((n + 1 : Nat) : Int) := by omega
  rw [this]
theorem mkUint64_at (m : Int) (n i : Nat) (h : i < n) : rd (mkUint64 m n) (i : Int) = m + 1 * (i : Int) := by
 induction n generalizing m i with
 | zero => omega
 | succ n ih =>
  cases i with
  | zero => simp [rd, mkUint64]
  | succ i =>
   have := ih (m + 1) i (by omega)
   unfold rd at this ⊢
   rw [Int.toNat_natCast] at this ⊢
   rw [mkUint64, List.getD_cons_succ, this]
   have e : m + 1 + 1 * (i : Int) = m + 1 * ((i + 1 : Nat) : Int) := by omega
   rw [e]
theorem markUint64_loop (b : Int) (hb : 0 ≤ b) (hb2 : b ≤ 100000000) (l : List Int) (hl : l.length ≤ 1048576) (d : Nat) : ∀ (i k : Nat), i + d = l.length → d < k →
  laws_markUint64S.l0 k (mkUint64 b i ++ l.drop i) (b + 1 * (i : Int)) (i : Int) = some (b + 1 * (l.length : Int), mkUint64 b l.length) := by
 induction d with
 | zero =>
  intro i k hi hk
  obtain ⟨k, rfl⟩ : ∃ m, k = m + 1 := ⟨k - 1, by omega⟩
  obtain rfl : i = l.length := by omega
  simp only [laws_markUint64S.l0]
  rw [if_neg (by simp [mkUint64_len]), List.drop_eq_nil_of_le (by omega), List.append_nil]
 | succ d ih =>
  intro i k hi hk
  obtain ⟨k, rfl⟩ : ∃ m, k = m + 1 := ⟨k - 1, by omega⟩
  have hit : i < l.length := by omega
  have e1 : wrap64 ((i : Int) + 1) = ((i + 1 : Nat) : Int) := by rw [wrap64_id _ (by omega) (by omega)]; omega
  have q0 : wrap64 (b + 1 * (i : Int) + 1) = b + 1 * ((i + 1 : Nat) : Int) := by rw [wrap64_id _ (by omega) (by omega)]; omega
  have w0 : IntKind.u64.wrap (b + 1 * (i : Int)) = b + 1 * (i : Int) := u64_id _ (by omega) (by omega)
  have hd : l.drop i = l[i] :: l.drop (i + 1) := List.drop_eq_getElem_cons hit
  have hset : ∀ y z : Int, (mkUint64 b i ++ y :: l.drop (i + 1)).set i z = mkUint64 b i ++ z :: l.drop (i + 1) := fun y z => set_mid _ _ _ _ _ (by rw [mkUint64_len])
  simp only [laws_markUint64S.l0]
  rewrite [if_pos (by simp [mkUint64_len]; omega), if_pos (by omega)]
  (try simp only [Option.bind_some])
  rewrite [hd, Int.toNat_natCast, hset, e1, q0, w0]
  have := ih (i + 1) k (by omega) (by omega)
  rw [mkUint64_snoc, List.append_assoc] at this
  exact this
theorem markUint64_val (k : Nat) (b : Int) (hb : 0 ≤ b) (hb2 : b ≤ 100000000) (l : List Int) (hl : l.length ≤ 1048576) (hk : l.length < k) : laws_markUint64S.f k l b = some (b + 1 * (l.length : Int), mkUint64 b l.length) := by
 have := markUint64_loop b hb hb2 l hl l.length 0 k (by omega) hk
 unfold laws_markUint64S.f
 simpa [mkUint64] using this
theorem heldUint64_loop (b : Int) (hb : 0 ≤ b) (hb2 : b ≤ 100000000) (n : Nat) (hn : n ≤ 1048576) (d : Nat) : ∀ (i k : Nat), i + d = n → d < k →
  laws_heldUint64S.l0 k (mkUint64 b n) (b + 1 * (i : Int)) (i : Int) = some (b + 1 * (n : Int)) := by
 induction d with
 | zero =>
  intro i k hi hk
  obtain ⟨k, rfl⟩ : ∃ m, k = m + 1 := ⟨k - 1, by omega⟩
  obtain rfl : i = n := by omega
  simp only [laws_heldUint64S.l0]
  rw [if_neg (by rw [mkUint64_len]; omega)]
 | succ d ih =>
  intro i k hi hk
  obtain ⟨k, rfl⟩ : ∃ m, k = m + 1 := ⟨k - 1, by omega⟩
  have e1 : wrap64 ((i : Int) + 1) = ((i + 1 : Nat) : Int) := by rw [wrap64_id _ (by omega) (by omega)]; omega
  have q0 : wrap64 (b + 1 * (i : Int) + 1) = b + 1 * ((i + 1 : Nat) : Int) := by rw [wrap64_id _ (by omega) (by omega)]; omega
  have w0 : IntKind.u64.wrap (b + 1 * (i : Int)) = b + 1 * (i : Int) := u64_id _ (by omega) (by omega)
  simp only [laws_heldUint64S.l0]
  rewrite [if_pos (by rw [mkUint64_len]; omega), if_pos (by omega), mkUint64_at b n i (by omega), q0, w0]
  rewrite [if_pos (by rfl), e1]
  exact ih (i + 1) k (by omega) (by omega)
theorem heldUint64_val (k : Nat) (b : Int) (hb : 0 ≤ b) (hb2 : b ≤ 100000000) (n : Nat) (hn : n ≤ 1048576) (hk : n < k) : laws_heldUint64S.f k (mkUint64 b n) b = some (b + 1 * (n : Int)) := by
 have := heldUint64_loop b hb hb2 n hn n 0 k (by omega) hk
 unfold laws_heldUint64S.f
 simpa using this

end Go.Proofs.Ytkebpfpkohehgaa.Pure

namespace Go.Proofs.Ytkebpfpkohehgaa.Pure
open Go.RowKit Go.Proofs.Ytkebpfpkohehgaa.X Go.Proofs.YtkebpfpkohehgaaW.PrintWords Go.Proofs.YtkebpfpkohehgaaW.PrintLast Go.Proofs.YtkebpfpkohehgaaW.PrintMore Go.Proofs.Ytkebpfpkohehgaa.Bits
theorem prB_range {w v : Int} {s : List Nd} {l : List Cm} (h : prB w v s l = true) : 1 ≤ w ∧ w ≤ 64 ∧ 1 ≤ v ∧ v ≤ 4 := by
 unfold prB at h
 rw [Bool.and_eq_true] at h
 exact kind_range (t := s) (by rw [beq_iff_eq.mp h.1]; decide)
theorem pow_small5 (m : Nat) (h : m ≤ 5) : (2 : Int) ^ m ≤ 32 := by
 have h2 := Int.ofNat_le.mpr (Nat.pow_le_pow_right (n := 2) (by decide) h)
 rw [Int.natCast_pow] at h2
 exact h2
theorem i64_id (n : Int) (h0 : 0 ≤ n) (h1 : n < 2 ^ 62) : IntKind.i64.wrap n = n := by
 rw [i64_w]; exact wrap64_id n (by omega) (by omega)
theorem shl_small (x : Int) (m : Nat) (hm : m ≤ 5) (h0 : 0 ≤ x) (h1 : x < 64) : shl .i64 x (m : Int) = x * 2 ^ m := by
 have hb : IntKind.i64.bits = 64 := rfl
 have hp := pow_small5 m hm
 have hq := pow_pos m
 have h2 : x * 2 ^ m ≤ 64 * 2 ^ m := Int.mul_le_mul_of_nonneg_right (by omega) (by omega)
 have h3 : 0 ≤ x * 2 ^ m := Int.mul_nonneg h0 (by omega)
 unfold shl
 rw [hb, Int.toNat_natCast, Nat.min_eq_left (by omega), i64_id _ h3 (by omega)]
theorem shr_small (kd : IntKind) (hb : kd.bits = 64) (x : Int) (m : Nat) (hm : m ≤ 5) : shr kd x (m : Int) = x / 2 ^ m := by
 unfold shr
 rw [hb, Int.toNat_natCast, Nat.min_eq_left (by omega)]
/-- Word i of the number. -/
def wordAt (n : Nat) (no : Int) (i : Nat) : Int := (no / 2 ^ (n * i)) % 2 ^ n
theorem words_few (n : Nat) (no : Int) (i : Nat) (hi : i ≤ 4) : ((List.range i).map (wordAt n no)).length < 17592186044416 := by
 rw [List.length_map, List.length_range]; omega
theorem div_range (no : Int) (m : Nat) (h0 : 0 ≤ no) (h1 : no < 64) : 0 ≤ no / 2 ^ m ∧ no / 2 ^ m < 64 := by
 have hp := pow_pos m
 have h2 := Int.ediv_nonneg h0 (Int.le_of_lt hp)
 have h3 := Int.ediv_le_self (2 ^ m) h0
 exact ⟨h2, by omega⟩
theorem mod_range (x : Int) (n : Nat) (hn : n ≤ 5) : 0 ≤ x % 2 ^ n ∧ x % 2 ^ n < 64 := by
 have hp := pow_pos n
 have h5 := pow_small5 n hn
 have h2 := Int.emod_nonneg x (show (2 : Int) ^ n ≠ 0 by omega)
 have h3 := Int.emod_lt_of_pos x hp
 exact ⟨h2, by omega⟩
theorem of_spec (n v : Nat) (hn : n ≤ 5) (hnv : n * v ≤ 5) (no : Int) (h0 : 0 ≤ no) (h1 : no < 64) (hv : v ≤ 4) (s : List Nd) (l : List Cm) (d : Nat) : ∀ (i k : Nat), i + d = v → d < k →
  spec_l7Of.l0 k no ((List.range i).map (wordAt n no)) (i : Int) (n : Int) (v : Int) s l = some ((List.range v).map (wordAt n no)) := by
 induction d with
 | zero =>
  intro i k hi hk
  obtain ⟨k, rfl⟩ : ∃ m, k = m + 1 := ⟨k - 1, by omega⟩
  obtain rfl : i = v := by omega
  simp only [spec_l7Of.l0]
  rw [if_neg (by omega)]
 | succ d ih =>
  intro i k hi hk
  obtain ⟨k, rfl⟩ : ∃ m, k = m + 1 := ⟨k - 1, by omega⟩
  have hni : n * i ≤ 5 := Nat.le_trans (Nat.mul_le_mul_left n (by omega)) hnv
  have hmul : (i : Int) * (n : Int) = ((n * i : Nat) : Int) := by rw [Int.natCast_mul, Int.mul_comm]
  have e0 : wrap64 ((n * i : Nat) : Int) = ((n * i : Nat) : Int) := wrap64_id _ (by omega) (by omega)
  have e1 : IntKind.u64.wrap ((n * i : Nat) : Int) = ((n * i : Nat) : Int) := u64_id _ (by omega) (by omega)
  have e2 : IntKind.u64.wrap (n : Int) = (n : Int) := u64_id _ (by omega) (by omega)
  have e3 : wrap64 ((i : Int) + 1) = ((i + 1 : Nat) : Int) := by rw [wrap64_id _ (by omega) (by omega)]; omega
  have hp := pow_small5 n hn
  have hp0 := pow_pos n
  have e4 : wrap64 (shl .i64 1 (n : Int) - 1) = 2 ^ n - 1 := by rw [shl_small 1 n hn (by omega) (by omega), wrap64_id _ (by omega) (by omega)]; omega
  have hd := div_range no (n * i) h0 h1
  have hm := mod_range (no / 2 ^ (n * i)) n hn
  have e5 : Go.bits .and .i64 (shr .i64 no ((n * i : Nat) : Int)) (2 ^ n - 1) = wordAt n no i := by
   rw [shr_small .i64 rfl no _ hni]
   exact bits_mask .i64 62 (by decide) i64_id n (by omega) _ hd.1 (by omega)
  have e6 : IntKind.u64.wrap (wordAt n no i) = wordAt n no i := u64_id _ hm.1 (by have := hm.2; unfold wordAt; omega)
  have hlen := words_few n no i (Nat.le_trans (Nat.le_of_lt (show i < v by omega)) hv)
  have hsn : (List.range (i + 1)).map (wordAt n no) = (List.range i).map (wordAt n no) ++ [wordAt n no i] := by rw [List.range_succ, List.map_append]; rfl
  have h2 := ih (i + 1) k (by omega) (by omega)
  rw [hsn] at h2
  simp only [spec_l7Of.l0]
  rewrite [hmul, e0, e1, e2, e3, e4, e5, e6, if_pos (show (i : Int) < (v : Int) by omega), if_pos (Int.natCast_nonneg _), if_pos (Int.natCast_nonneg _), if_pos hlen]
  exact h2
theorem mask_f5 (n : Nat) (h1 : 1 ≤ n) (hn : n ≤ 5) : impl_mask.f (n : Int) = some (2 ^ n - 1) := by
 rw [mask_f _ (by omega) (by omega), Int.toNat_natCast]
theorem of_impl (n v : Nat) (hn1 : 1 ≤ n) (hn : n ≤ 5) (hnv : n * v ≤ 5) (no : Int) (h0 : 0 ≤ no) (h1 : no < 64) (hv : v ≤ 4) (s : List Nd) (l : List Cm) (d : Nat) : ∀ (i k : Nat), i + d = v → d < k →
  impl_Program_stateOf.l0 k no ((List.range i).map (wordAt n no)) (v : Int) (i : Int) (n : Int) (v : Int) s l = some ((List.range v).map (wordAt n no)) := by
 induction d with
 | zero =>
  intro i k hi hk
  obtain ⟨k, rfl⟩ : ∃ m, k = m + 1 := ⟨k - 1, by omega⟩
  obtain rfl : i = v := by omega
  simp only [impl_Program_stateOf.l0]
  rw [if_neg (by omega)]
 | succ d ih =>
  intro i k hi hk
  obtain ⟨k, rfl⟩ : ∃ m, k = m + 1 := ⟨k - 1, by omega⟩
  have hni : n * i ≤ 5 := Nat.le_trans (Nat.mul_le_mul_left n (by omega)) hnv
  have hmul : (n : Int) * (i : Int) = ((n * i : Nat) : Int) := (Int.natCast_mul _ _).symm
  have e0 : wrap64 ((n * i : Nat) : Int) = ((n * i : Nat) : Int) := wrap64_id _ (by omega) (by omega)
  have e2 : IntKind.u64.wrap no = no := u64_id _ (by omega) (by omega)
  have e3 : wrap64 ((i : Int) + 1) = ((i + 1 : Nat) : Int) := by rw [wrap64_id _ (by omega) (by omega)]; omega
  have hd := div_range no (n * i) h0 h1
  have e5 : Go.bits .and .u64 (shr .u64 no ((n * i : Nat) : Int)) (2 ^ n - 1) = wordAt n no i := by
   rw [shr_small .u64 rfl no _ hni]
   exact and_mask _ n hd.1 (by omega) (by omega)
  have hlen := words_few n no i (Nat.le_trans (Nat.le_of_lt (show i < v by omega)) hv)
  have hsn : (List.range (i + 1)).map (wordAt n no) = (List.range i).map (wordAt n no) ++ [wordAt n no i] := by rw [List.range_succ, List.map_append]; rfl
  have h2 := ih (i + 1) k (by omega) (by omega)
  rw [hsn] at h2
  simp only [impl_Program_stateOf.l0]
  rewrite [hmul, e0, e2, e3, mask_f5 n hn1 hn, if_pos (show (i : Int) < (v : Int) by omega), if_pos (Int.natCast_nonneg _)]
  simp only [Option.bind_some]
  rewrite [e5, if_pos hlen]
  exact h2
def soGood (w v : Int) (s : List Nd) (l : List Cm) (no : Int) : Bool := prB w v s l && (decide (wrap64 (w * v) ≤ 5) && decide (0 ≤ no ∧ no < shl .i64 1 (wrap64 (w * v))))
def soR (w v : Int) (s : List Nd) (l : List Cm) (no : Int) : List Int × Bool := if soGood w v s l no = true then ((List.range v.toNat).map (wordAt w.toNat no), true) else ([], false)
theorem so_facts {w v : Int} {s : List Nd} {l : List Cm} (hp : prB w v s l = true) (h5 : wrap64 (w * v) ≤ 5) : ∃ n m : Nat, w = (n : Int) ∧ v = (m : Int) ∧ 1 ≤ n ∧ n ≤ 5 ∧ n * m ≤ 5 ∧ 1 ≤ m ∧ m ≤ 4 ∧ wrap64 (w * v) = ((n * m : Nat) : Int) ∧ shl .i64 1 ((n * m : Nat) : Int) = 2 ^ (n * m) := by
 have hr := prB_range hp
 obtain ⟨n, rfl⟩ := Int.eq_ofNat_of_zero_le (show 0 ≤ w by omega)
 obtain ⟨m, rfl⟩ := Int.eq_ofNat_of_zero_le (show 0 ≤ v by omega)
 have hmul : ((n * m : Nat) : Int) = (n : Int) * (m : Int) := Int.natCast_mul _ _
 have hb : n * m ≤ 64 * 4 := Nat.mul_le_mul (by omega) (by omega)
 have hw : wrap64 ((n : Int) * (m : Int)) = ((n * m : Nat) : Int) := by rw [← hmul, wrap64_id _ (by omega) (by omega)]
 rw [hw] at h5
 have h1 : n * 1 ≤ n * m := Nat.mul_le_mul_left n (by omega)
 have hs : shl .i64 1 ((n * m : Nat) : Int) = 2 ^ (n * m) := by rw [shl_small 1 _ (by omega) (by omega) (by omega), Int.one_mul]
 exact ⟨n, m, rfl, rfl, by omega, by omega, by omega, by omega, by omega, hw, hs⟩
theorem stateOf_spec (k : Nat) (w v : Int) (s : List Nd) (l : List Cm) (no : Int) (h0 : okNodes s) (hok : okM l) (hk : 1049000 < k) : spec_StateOf.f k w v s l no = some (soR w v s l no) := by
 unfold spec_StateOf.f spec_l7Small.f soR soGood
 rewrite [prog_spec k w v s l h0 hok hk]
 simp only [Option.bind_some]
 by_cases hp : prB w v s l = true
 case neg => rewrite [if_neg hp, Bool.eq_false_iff.mpr hp]; rfl
 rewrite [if_pos hp, hp]
 simp only [Option.bind_some, Bool.true_and, decide_eq_true_eq]
 by_cases h5 : wrap64 (w * v) ≤ 5
 case neg => rewrite [if_neg h5, decide_eq_false h5]; rfl
 rewrite [if_pos h5, decide_eq_true h5]
 obtain ⟨n, m, rfl, rfl, hn1, hn, hnm, hm1, hm, ew, es⟩ := so_facts hp h5
 have hpw := pow_small5 (n * m) hnm
 have hpp := pow_pos (n * m)
 unfold spec_l7Many.f spec_l1In.f
 rewrite [ew, u64_id _ (by omega) (by omega), if_pos (Int.natCast_nonneg _), es]
 simp only [Option.bind_some, Bool.true_and]
 rewrite [wrap64_id _ (by omega) (by omega)]
 by_cases hno : 0 ≤ no ∧ no < 2 ^ (n * m)
 case neg =>
  rewrite [decide_eq_false hno]
  by_cases hno0 : no ≥ 0
  ·rewrite [if_pos hno0, decide_eq_false (show ¬ no ≤ 2 ^ (n * m) - 1 by omega)]; rfl
  ·rewrite [if_neg hno0]; rfl
 rewrite [decide_eq_true hno, if_pos (show no ≥ 0 by omega), decide_eq_true (show no ≤ 2 ^ (n * m) - 1 by omega)]
 simp only [Option.bind_some, if_true]
 unfold spec_l7Of.f
 have h := of_spec n m hn hnm no hno.1 (by omega) hm s l m 0 k (by omega) (by omega)
 rw [Int.natCast_zero, List.range_zero, List.map_nil] at h
 rewrite [h, Int.toNat_natCast, Int.toNat_natCast]
 rfl
theorem stateOf_impl (k : Nat) (w v : Int) (s : List Nd) (l : List Cm) (no : Int) (h0 : okNodes s) (hok : okM l) (hk : 1049000 < k) : impl_StateOf.f k w v s l no = some (soR w v s l no) := by
 unfold impl_StateOf.f impl_isNo.f impl_isSmall.f soR soGood
 rewrite [prog_impl k w v s l h0 hok hk]
 simp only [Option.bind_some]
 by_cases hp : prB w v s l = true
 case neg => rewrite [if_neg hp, Bool.eq_false_iff.mpr hp]; rfl
 rewrite [if_pos hp, hp]
 simp only [Option.bind_some, Bool.true_and, decide_eq_true_eq]
 by_cases h5 : wrap64 (w * v) ≤ 5
 case neg => rewrite [if_neg h5, decide_eq_false h5]; rfl
 rewrite [if_pos h5, decide_eq_true h5]
 obtain ⟨n, m, rfl, rfl, hn1, hn, hnm, hm1, hm, ew, es⟩ := so_facts hp h5
 have hpw := pow_small5 (n * m) hnm
 unfold impl_Program_states.f
 rewrite [ew, if_pos (Int.natCast_nonneg _), es]
 simp only [Option.bind_some, Bool.true_and]
 by_cases hno : 0 ≤ no ∧ no < 2 ^ (n * m)
 case neg =>
  rewrite [decide_eq_false hno]
  by_cases hno0 : no ≥ 0
  ·rewrite [if_pos hno0, decide_eq_false (show ¬ no < 2 ^ (n * m) by omega)]; rfl
  ·rewrite [if_neg hno0]; rfl
 rewrite [decide_eq_true hno, if_pos (show no ≥ 0 by omega), decide_eq_true hno.2]
 simp only [Option.bind_some, if_true]
 unfold impl_Program_stateOf.f
 have h := of_impl n m hn1 hn hnm no hno.1 (by omega) hm s l m 0 k (by omega) (by omega)
 rw [Int.natCast_zero, List.range_zero, List.map_nil] at h
 rewrite [h, Int.toNat_natCast, Int.toNat_natCast]
 rfl
theorem soR_len {w v : Int} {s : List Nd} {l : List Cm} {no : Int} : (soR w v s l no).1.length ≤ 4 := by
 unfold soR
 split
 ·rename_i h
  unfold soGood at h
  simp only [Bool.and_eq_true] at h
  have := prB_range h.1
  simp; omega
 ·simp
theorem cnt_bound {α : Type} (f : α → Nat) (l : List α) (M : Nat) (h : ∀ x ∈ l, f x ≤ M) : cntOf f l ≤ l.length * M := by
 unfold cntOf
 induction l with
 | nil => simp
 | cons a t ih =>
  have h1 := h a List.mem_cons_self
  have h2 := ih (fun x hx => h x (List.mem_cons_of_mem _ hx))
  rw [List.map_cons, List.sum_cons, List.length_cons, Nat.succ_mul]
  omega
theorem cntCh_bound (l : List Ch) (hl : l.length ≤ 1048576) (h : ∀ d ∈ l, d.f1.length ≤ 1048576) : cntCh l ≤ 1048576 * 2097153 :=
 Nat.le_trans (cnt_bound _ l 2097153 (fun x hx => by have := h x hx; omega)) (Nat.mul_le_mul_right _ hl)
theorem markP_val (w v : Int) (s : List Nd) (l : List Cm) (hs : s.length ≤ 1048576) (hl : l.length ≤ 1048576) (h : ∀ c ∈ l, c.f0.length ≤ 1048576 ∧ c.f1.length ≤ 1048576 ∧ ∀ d ∈ c.f1, d.f1.length ≤ 1048576) :
  ∃ r : Int, laws_markProgram.f w v s l 1 = some r ∧ 0 ≤ r := by
 have hc : cntCm l ≤ 1048576 * 2199026401280 := Nat.le_trans (cnt_bound _ l 2199026401280 (fun x hx => by
  have h1 := h x hx
  have h2 := cntCh_bound x.f1 h1.2.1 h1.2.2
  omega)) (Nat.mul_le_mul_right _ hl)
 unfold laws_markProgram.f cntProg
 refine ⟨1 + ((2 * s.length + cntCm l : Nat) : Int), ?_, by omega⟩
 rw [if_pos]
 refine ⟨by omega, by omega, by omega, ?_⟩
 rw [List.all_eq_true]
 intro x hx
 have := (h x hx).2.1
 rw [decide_eq_true_eq]
 omega
theorem FnExactStateOf : laws_FnExactStateOf.Pure := by
 intro w v s l no _ _ hs hl _
 have hsl := hs.1
 have hll := hl.1
 simp only [maxLen] at hsl hll
 obtain ⟨k, hk⟩ : ∃ k : Nat, 4000005 ≤ k := ⟨4000005, Nat.le_refl _⟩
 refine ⟨k + 3, ?_⟩
 have k3 : 4000000 < k + 3 := by omega
 have k2 : 4000000 < k + 2 := by omega
 have k1 : 4000000 < k + 1 := by omega
 have s3 : 1049000 < k + 3 := by omega
 have s1 : 1049000 < k + 1 := by omega
 unfold laws_FnExactStateOf.f
 rewrite [szP_val (k + 3) w v s l hsl hll (wf_wide hl.2) (by omega)]
 simp only [Option.bind_some]
 by_cases hb : szP s l 1048576 < 0
 ·rw [if_pos hb]
 ·have hf := szP_ok hb
  have h0 := conv_ok s hs.2
  have hok := conv_okM l hl.2 hf.2.2
  have hfc := fits_conv hf
  rewrite [if_neg hb, toP_val (k + 3) w v s l hf k3]
  simp only [Option.bind_some]
  have hr := soR_len (w := w) (v := v) (s := s.map conv) (l := l.map convM) (no := no)
  have hS := fun k hk => stateOf_spec k w v (s.map conv) (l.map convM) no h0 hok hk
  have hI := fun k hk => stateOf_impl k w v (s.map conv) (l.map convM) no h0 hok hk
  obtain ⟨r2, b2, hres⟩ : ∃ r2 b2, soR w v (s.map conv) (l.map convM) no = (r2, b2) := ⟨_, _, rfl⟩
  simp only [hres] at hS hI hr
  have hbb : (b2 != b2) = false := by simp
  obtain ⟨mr, hmr, hm0⟩ := markP_val w v (s.map conv) (l.map convM) (by rw [List.length_map]; exact hf.1) (by rw [List.length_map]; exact hf.2.1) hfc
  rewrite [hS _ s3, hI _ s3]
  simp only [Option.bind_some]
  rewrite [eqUint64_val _ r2 (by omega) (by omega)]
  simp only [Option.bind_some, if_true, hbb]
  simp only [laws_FnExactStateOf.j0, Bool.false_eq_true, if_false]
  rewrite [toP_val _ w v s l hf k2]
  simp only [Option.bind_some]
  have heq := eqP_val (k + 2) w v s l hf k2
  rw [heq, Option.bind_some, if_pos rfl, hmr]
  simp only [Option.bind_some]
  rewrite [if_neg (by omega), eqUint64_val _ r2 (by omega) (by omega)]
  simp only [Option.bind_some, if_true, laws_FnExactStateOf.j1, hbb, Bool.false_eq_true, if_false]
  rewrite [markUint64_val _ 1 (by omega) (by omega) r2 (by omega) (by omega)]
  simp only [Option.bind_some]
  rewrite [heldUint64_val _ 1 (by omega) (by omega) r2.length (by omega) (by omega)]
  simp only [Option.bind_some]
  rewrite [if_neg (by omega)]
  simp only [if_true]
  rewrite [toP_val _ w v s l hf k1]
  simp only [Option.bind_some]
  rewrite [hI _ s1]
  simp only [Option.bind_some]
  rewrite [eqUint64_val _ r2 (by omega) (by omega)]
  simp only [Option.bind_some, if_true, laws_FnExactStateOf.j2, hbb, Bool.false_eq_true, if_false]
  rewrite [heldUint64_val _ 1 (by omega) (by omega) r2.length (by omega) (by omega)]
  simp only [Option.bind_some]
  rewrite [if_neg (by omega)]
  rfl
end Go.Proofs.Ytkebpfpkohehgaa.Pure
