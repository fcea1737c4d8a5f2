/- Bits of 64-bit words as the model tells them: and, or, xor, shifts and masks as remainders and powers of two. No condition. What the functions on words compute: each printed function's value, in terms of remainders and powers of two. Conditions: the numbers are of their kinds. Terms as lists of nodes: what an operator needs, whether a node's number fits, and the stack of kinds; the reference's and the program's functions come to these. Conditions: numbers are of their kinds, lists no longer than 2^20. Lists of nodes as the laws hand them over: copied, compared, measured. Conditions: those named. The laws' own list functions (copying, comparing, measuring, writing over, looking again) come to plain lists. Conditions: lists no longer than 2^20. Written by wip/xp/lists.py. The law on PutAll: both sides lay each variable's term into the place of its leaf. Conditions: those of the law's own Pure. -/
import Derived.Test.YtckdgmbmjfhodaaWMore
import Derived.Laws.BitsLemmas
import Derived.Test.YtckdgmbmjfhodaaXO
import Derived.Test.YtckdgmbmjfhodaaX1
import Derived.Test.YtckdgmbmjfhodaaX11
import Derived.Test.YtckdgmbmjfhodaaX12
import Derived.Test.YtckdgmbmjfhodaaX15
import Derived.Test.YtckdgmbmjfhodaaX18
import Derived.Test.YtckdgmbmjfhodaaX23
import Derived.Test.YtckdgmbmjfhodaaX4
import Derived.Test.YtckdgmbmjfhodaaX6
import Derived.Test.YtckdgmbmjfhodaaX7
import Derived.Test.YtckdgmbmjfhodaaX9
namespace Go.Proofs.Ytckdgmbmjfhodaa.Bits
open Go.RowKit Go.Proofs.YtckdgmbmjfhodaaW.PrintWords

theorem wrap_u64 (n : Int) : IntKind.u64.wrap n = n % 18446744073709551616 := by simp [IntKind.wrap, IntKind.bits, IntKind.signed]
theorem wraps_u64 (n : Int) (h₀ : 0 ≤ n) (h₁ : n < 2 ^ 64) : IntKind.u64.wrap n = n := by rw [wrap_u64]; omega
theorem u64_id (n : Int) (h₀ : 0 ≤ n) (h₁ : n < 18446744073709551616) : IntKind.u64.wrap n = n := by rw [wrap_u64]; omega
theorem and_u64 (a b : Nat) (ha : a < 2 ^ 64) (hb : b < 2 ^ 64) : Go.bits .and .u64 a b = ((a &&& b : Nat) : Int) := (bits_nat .u64 64 (by decide) wraps_u64 a b ha hb).1
theorem or_u64 (a b : Nat) (ha : a < 2 ^ 64) (hb : b < 2 ^ 64) : Go.bits .or .u64 a b = ((a ||| b : Nat) : Int) := (bits_nat .u64 64 (by decide) wraps_u64 a b ha hb).2
theorem wf_u64 {a : Int} (h : (Lit.int .u64 a).wf = true) : 0 ≤ a ∧ a < 18446744073709551616 := by
 have : 0 ≤ a ∧ a ≤ 18446744073709551615 := by
  simpa [Lit.wf, IntKind.min, IntKind.max, IntKind.signed, IntKind.bits] using h
 omega
theorem wrap64_id (n : Int) (h0 : -9223372036854775808 ≤ n) (h1 : n ≤ 9223372036854775807) : wrap64 n = n := by unfold wrap64; omega

theorem pow_pos (n : Nat) : (0 : Int) < 2 ^ n := Int.pow_pos (by decide)

theorem shl_one (k : Nat) (h : k < 64) : shl .u64 1 (k : Int) = ((2 ^ k : Nat) : Int) := by
 have hb : IntKind.u64.bits = 64 := rfl
 unfold shl
 rw [hb, Int.toNat_natCast, Nat.min_eq_left (by omega), Int.one_mul, wraps_u64]
 ·simp
 ·exact Int.le_of_lt (Int.pow_pos (by decide))
 ·exact_mod_cast Nat.pow_lt_pow_right (by decide) h
theorem mod_or_and (a k : Nat) : (a % 2 ^ k) ||| (a &&& 2 ^ k) = a % 2 ^ (k + 1) := by
 apply Nat.eq_of_testBit_eq
 intro i
 simp only [Nat.testBit_or, Nat.testBit_mod_two_pow, Nat.testBit_and, Nat.testBit_two_pow]
 by_cases h : i < k
 ·have h2 : ¬ k = i := by omega
  have h3 : i < k + 1 := by omega
  simp [h, h2, h3]
 ·by_cases h2 : k = i
  ·subst h2; simp
  ·have h3 : ¬ i < k + 1 := by omega
   simp [h, h2, h3]
/-- One round of the lower bits, bit by bit. -/
theorem cut_step (a : Int) (k : Nat) (h0 : 0 ≤ a) (ha : a < 18446744073709551616) (hk : k < 64) :
  Go.bits .or .u64 (a % 2 ^ k) (Go.bits .and .u64 a (shl .u64 1 (k : Int))) = a % 2 ^ (k + 1) := by
 obtain ⟨n, rfl⟩ := Int.eq_ofNat_of_zero_le h0
 have hn : n < 2 ^ 64 := by omega
 have e1 : ((n : Int) % 2 ^ k) = ((n % 2 ^ k : Nat) : Int) := by simp
 have e2 : ((n : Int) % 2 ^ (k + 1)) = ((n % 2 ^ (k + 1) : Nat) : Int) := by simp
 rw [e1, e2, shl_one k hk, and_u64 n _ hn (Nat.pow_lt_pow_right (by decide) hk), or_u64 _ _ (Nat.lt_of_le_of_lt (Nat.mod_le _ _) hn) (Nat.and_lt_two_pow _ (Nat.pow_lt_pow_right (by decide) hk)), mod_or_and]
theorem mask_val (w : Int) (h0 : 1 ≤ w) (h1 : w ≤ 64) : shr .u64 18446744073709551615 (64 - w) = 2 ^ w.toNat - 1 := by
 obtain ⟨n, rfl⟩ := Int.eq_ofNat_of_zero_le (show 0 ≤ w by omega)
 have hb : IntKind.u64.bits = 64 := rfl
 unfold shr
 rw [hb, Int.toNat_natCast, Nat.min_eq_left (by omega)]
 have e : (64 - (n : Int)).toNat = 64 - n := by omega
 rw [e]
 have hn : n ≤ 64 := by omega
 have hp : 0 < n := by omega
 have h2 : 2 ^ (64 - n) * 2 ^ n = 2 ^ 64 := by rw [← Nat.pow_add]; congr 1; omega
 have hx : 0 < 2 ^ (64 - n) := Nat.two_pow_pos _
 have hy : 0 < 2 ^ n := Nat.two_pow_pos _
 have h3 : (18446744073709551615 : Nat) / 2 ^ (64 - n) = 2 ^ n - 1 := by
  rw [Nat.div_eq_iff hx]
  have h4 : (2 ^ n - 1) * 2 ^ (64 - n) = 2 ^ 64 - 2 ^ (64 - n) := by rw [Nat.sub_mul, Nat.mul_comm, h2]; omega
  have h5 : 2 ^ (64 - n) ≤ 2 ^ 64 := Nat.pow_le_pow_right (by decide) (by omega)
  rw [h4]
  omega
 have h6 : (18446744073709551615 : Int) / 2 ^ (64 - n) = (((18446744073709551615 : Nat) / 2 ^ (64 - n) : Nat) : Int) := by simp
 rw [h6, h3, Int.natCast_sub hy]
 simp
/-- The words of a width. -/
def word (w a : Int) : Prop := 1 ≤ w ∧ w ≤ 64 ∧ 0 ≤ a ∧ a < 2 ^ w.toNat
instance (w a : Int) : Decidable (word w a) := by unfold word; infer_instance
end Go.Proofs.Ytckdgmbmjfhodaa.Bits

namespace Go.Proofs.Ytckdgmbmjfhodaa.Pure
open Go.RowKit Go.Proofs.Ytckdgmbmjfhodaa.X Go.Proofs.YtckdgmbmjfhodaaW.PrintWords Go.Proofs.Ytckdgmbmjfhodaa.Bits

theorem l1In_val (a b c : Int) : spec_l1In.f a b c = some (decide (b ≤ a ∧ a ≤ c)) := by
 unfold spec_l1In.f
 by_cases h : a ≥ b
 ·rw [if_pos h]; simp [show b ≤ a from h]
 ·rw [if_neg h]; simp [show ¬ b ≤ a from h]
theorem l1Wide_val (a : Int) : spec_l1Wide.f a = some (decide (1 ≤ a ∧ a ≤ 64)) := by
 unfold spec_l1Wide.f
 rw [l1In_val]; rfl
theorem isWide_val (a : Int) : impl_isWide.f a = some (decide (1 ≤ a ∧ a ≤ 64)) := by
 unfold impl_isWide.f
 by_cases h : a ≥ 1
 ·rw [if_pos h]; simp [show 1 ≤ a from h]
 ·rw [if_neg h]; simp [show ¬ 1 ≤ a from h]
theorem mask_f (w : Int) (h0 : 1 ≤ w) (h1 : w ≤ 64) : impl_mask.f w = some (2 ^ w.toNat - 1) := by
 unfold impl_mask.f
 have e : wrap64 (64 - w) = 64 - w := wrap64_id _ (by omega) (by omega)
 rw [e, if_pos (by omega), mask_val w h0 h1]
theorem cut_loop (w a : Int) (h0 : 0 ≤ a) (ha : a < 18446744073709551616) (hw : w ≤ 64) (d : Nat) :
  ∀ (k i : Nat), (i : Int) + d = w → d < k → spec_l1Cut.l0 k w a (a % 2 ^ i) (i : Int) = some (a % 2 ^ w.toNat) := by
 induction d with
 | zero =>
  intro k i hi hk
  obtain ⟨k, rfl⟩ : ∃ m, k = m + 1 := ⟨k - 1, by omega⟩
  simp only [spec_l1Cut.l0]
  rw [if_neg (by omega), show w.toNat = i by omega]
 | succ d ih =>
  intro k i hi hk
  obtain ⟨k, rfl⟩ : ∃ m, k = m + 1 := ⟨k - 1, by omega⟩
  simp only [spec_l1Cut.l0]
  rw [if_pos (by omega), u64_id (i : Int) (by omega) (by omega), if_pos (by omega), cut_step a i h0 ha (by omega)]
  have e : wrap64 ((i : Int) + 1) = ((i + 1 : Nat) : Int) := by rw [wrap64_id _ (by omega) (by omega)]; omega
  rw [e]
  exact ih k (i + 1) (by omega) (by omega)
theorem cut_val (k : Nat) (w a : Int) (hk : 65 < k) (hw0 : 0 ≤ w) (hw : w ≤ 64) (h0 : 0 ≤ a) (ha : a < 18446744073709551616) :
  spec_l1Cut.f k w a = some (a % 2 ^ w.toNat) := by
 have := cut_loop w a h0 ha hw w.toNat k 0 (by omega) (by omega)
 unfold spec_l1Cut.f
 simpa using this
theorem cut_word (w a : Int) (h : word w a) : a % 2 ^ w.toNat = a := Int.emod_eq_of_lt h.2.2.1 h.2.2.2
theorem goodWord_spec (k : Nat) (w a : Int) (hk : 65 < k) (h0 : 0 ≤ a) (ha : a < 18446744073709551616) : spec_GoodWord.f k w a = some (decide (word w a)) := by
 unfold spec_GoodWord.f
 rw [l1Wide_val]
 simp only [Option.bind_some]
 by_cases h : 1 ≤ w ∧ w ≤ 64
 ·rw [if_pos (by simpa using h), cut_val k w a hk (by omega) h.2 h0 ha]
  simp only [Option.bind_some, Option.some.injEq]
  rw [Bool.eq_iff_iff]
  simp only [beq_iff_eq, decide_eq_true_eq]
  constructor
  ·intro e
   refine ⟨h.1, h.2, h0, ?_⟩
   rw [← e]; exact Int.emod_lt_of_pos _ (pow_pos _)
  ·exact cut_word w a
 ·rw [if_neg (by simpa using h)]
  have : ¬ word w a := fun e => h ⟨e.1, e.2.1⟩
  simp [this]
theorem goodWord_impl (w a : Int) (h0 : 0 ≤ a) : impl_GoodWord.f w a = some (decide (word w a)) := by
 unfold impl_GoodWord.f
 rw [isWide_val]
 simp only [Option.bind_some]
 by_cases h : 1 ≤ w ∧ w ≤ 64
 ·rw [if_pos (by simpa using h), mask_f w h.1 h.2]
  simp only [Option.bind_some, Option.some.injEq]
  rw [Bool.eq_iff_iff]
  simp only [decide_eq_true_eq]
  constructor
  ·intro e; exact ⟨h.1, h.2, h0, by omega⟩
  ·intro e; have := e.2.2.2; omega
 ·rw [if_neg (by simpa using h)]
  have : ¬ word w a := fun e => h ⟨e.1, e.2.1⟩
  simp [this]
end Go.Proofs.Ytckdgmbmjfhodaa.Pure

namespace Go.Proofs.Ytckdgmbmjfhodaa.Pure
open Go.RowKit Go.Proofs.Ytckdgmbmjfhodaa.X Go.Proofs.YtckdgmbmjfhodaaW.PrintWords Go.Proofs.YtckdgmbmjfhodaaW.PrintLast Go.Proofs.Ytckdgmbmjfhodaa.Bits

abbrev Nd := S52
/-- What an operator takes: how many operands, of which kind, and the kind of its result. -/
def need (op : Int) : Int × Int × Int :=
 if op = 1 ∨ op = 2 then (0, 1, 1) else if op = 20 then (0, 2, 2) else if op = 13 then (1, 1, 1) else if op = 19 then (1, 2, 2)
 else if 3 ≤ op ∧ op ≤ 12 then (2, 1, 1) else if 14 ≤ op ∧ op ≤ 16 then (2, 1, 2) else if op = 17 ∨ op = 18 then (2, 2, 2) else (0, 0, 0)
theorem isVars_val (a : Int) : impl_isVars.f a = some (decide (1 ≤ a ∧ a ≤ 4)) := by
 unfold impl_isVars.f
 by_cases h : a ≥ 1
 ·rw [if_pos h]; simp [show 1 ≤ a from h]
 ·rw [if_neg h]; simp [show ¬ 1 ≤ a from h]
theorem need_spec (k : Nat) (op : Int) (hk : 3 < k) : spec_l2Need.f k op = some (need op) := by
 obtain ⟨k, rfl⟩ : ∃ m, k = m + 1 := ⟨k - 1, by omega⟩
 unfold spec_l2Need.f need
 by_cases h1 : op = 1
 ·simp [h1, spec_l2Need.j0]
 ·by_cases h2 : op = 2
  ·simp [h2, spec_l2Need.j0]
  ·have hb : (op == 2) = false := by simpa using h2
   rw [if_neg h1, hb, if_neg (by omega)]
   simp only [spec_l2Need.j0]
   rw [if_neg (by decide)]
   by_cases h3 : op = 20
   ·simp [h3]
   ·rw [if_neg h3, if_neg h3]
    by_cases h4 : op = 13
    ·simp [h4]
    ·rw [if_neg h4, if_neg h4]
     by_cases h5 : op = 19
     ·simp [h5]
     ·rw [if_neg h5, if_neg h5, l1In_val, l1In_val]
      simp only [Option.bind_some, decide_eq_true_eq]
      by_cases h6 : 3 ≤ op ∧ op ≤ 12
      ·rw [if_pos h6, if_pos h6]
      ·rw [if_neg h6, if_neg h6]
       by_cases h7 : 14 ≤ op ∧ op ≤ 16
       ·rw [if_pos h7, if_pos h7]
       ·rw [if_neg h7, if_neg h7]
        by_cases h8 : op = 17
        ·simp [h8]
        ·by_cases h9 : op = 18
         ·simp [h9]
         ·rw [if_neg h8, if_neg h9, if_neg (by omega)]
/-- The program's own table: of a leaf the operands' kind is 0. -/
def needI (op : Int) : Int × Int × Int :=
 if op = 1 ∨ op = 2 then (0, 0, 1) else if op = 20 then (0, 0, 2) else if op = 13 then (1, 1, 1) else if op = 19 then (1, 2, 2)
 else if 3 ≤ op ∧ op ≤ 12 then (2, 1, 1) else if 14 ≤ op ∧ op ≤ 16 then (2, 1, 2) else if op = 17 ∨ op = 18 then (2, 2, 2) else (0, 0, 0)
theorem needI_eq (op : Int) : (needI op).1 = (need op).1 ∧ (needI op).2.2 = (need op).2.2 ∧ ((need op).1 ≠ 0 → (needI op).2.1 = (need op).2.1) := by
 unfold needI need; (repeat' split) <;> simp
theorem need_impl (k : Nat) (op : Int) (hk : 3 < k) : impl_operandsOf.f k op = some (needI op) := by
 obtain ⟨k, rfl⟩ : ∃ m, k = m + 3 := ⟨k - 3, by omega⟩
 unfold impl_operandsOf.f needI
 by_cases h1 : op = 1
 ·simp [h1, impl_operandsOf.j0]
 ·by_cases h2 : op = 2
  ·simp [h2, impl_operandsOf.j0]
  ·have hb : (op == 2) = false := by simpa using h2
   rw [if_neg h1, hb, if_neg (by omega)]
   simp only [impl_operandsOf.j0]
   rw [if_neg (by decide)]
   by_cases h3 : op = 20
   ·simp [h3]
   ·rw [if_neg h3, if_neg h3]
    by_cases h4 : op = 13
    ·simp [h4]
    ·rw [if_neg h4, if_neg h4]
     by_cases h5 : op = 19
     ·simp [h5]
     ·rw [if_neg h5, if_neg h5]
      have e1 : (if op ≥ 3 then impl_operandsOf.j1 (k + 2) op (decide (op ≤ 12)) else impl_operandsOf.j1 (k + 2) op false) = impl_operandsOf.j1 (k + 2) op (decide (3 ≤ op ∧ op ≤ 12)) := by
       by_cases h : op ≥ 3
       ·rw [if_pos h]; congr 1; simp [show 3 ≤ op from h]
       ·rw [if_neg h]; congr 1; simp [show ¬ 3 ≤ op from h]
      rw [e1]
      simp only [impl_operandsOf.j1, decide_eq_true_eq]
      by_cases h6 : 3 ≤ op ∧ op ≤ 12
      ·rw [if_pos h6, if_pos h6]
      ·rw [if_neg h6, if_neg h6]
       have e2 : (if op ≥ 14 then impl_operandsOf.j2 (k + 1) op (decide (op ≤ 16)) else impl_operandsOf.j2 (k + 1) op false) = impl_operandsOf.j2 (k + 1) op (decide (14 ≤ op ∧ op ≤ 16)) := by
        by_cases h : op ≥ 14
        ·rw [if_pos h]; congr 1; simp [show 14 ≤ op from h]
        ·rw [if_neg h]; congr 1; simp [show ¬ 14 ≤ op from h]
       rw [e2]
       simp only [impl_operandsOf.j2, decide_eq_true_eq]
       by_cases h7 : 14 ≤ op ∧ op ≤ 16
       ·rw [if_pos h7, if_pos h7]
       ·rw [if_neg h7, if_neg h7]
        by_cases h8 : op = 17
        ·simp [h8]
        ·by_cases h9 : op = 18
         ·simp [h9]
         ·rw [if_neg h8, if_neg h9, if_neg (by omega)]
theorem need_range (op : Int) : 0 ≤ (need op).1 ∧ (need op).1 ≤ 2 ∧ 0 ≤ (need op).2.2 ∧ (need op).2.2 ≤ 2 ∧ 0 ≤ (need op).2.1 ∧ (need op).2.1 ≤ 2 := by
 unfold need; (repeat' split) <;> decide
theorem need_is (op : Int) : ∃ m p r, need op = (m, p, r) ∧ 0 ≤ m ∧ m ≤ 2 ∧ 0 ≤ r ∧ r ≤ 2 ∧ 0 ≤ p ∧ p ≤ 2 :=
 ⟨(need op).1, (need op).2.1, (need op).2.2, rfl, need_range op⟩
attribute [irreducible] need needI
/-- Does a node's number fit its operator? -/
def leafB (w v : Int) (x : Nd) : Bool :=
 if x.f0 = 1 then decide (word w x.f1) else if x.f0 = 2 then decide (x.f1 < v) else if x.f0 = 20 then decide (x.f1 ≤ 1) else decide (x.f1 = 0)
theorem leaf_spec (k : Nat) (w v a b : Int) (hk : 65 < k) (hv0 : 0 ≤ v) (hv : v ≤ 4) (h0 : 0 ≤ b) (h1 : b < 18446744073709551616) : spec_l2N.f k w v a b = some (leafB w v ⟨a, b⟩) := by
 unfold spec_l2N.f leafB
 by_cases h2 : a = 1
 ·rw [if_pos h2, if_pos h2, goodWord_spec k w b hk h0 h1]; rfl
 ·rw [if_neg h2, if_neg h2, u64_id v hv0 (by omega)]
  by_cases h3 : a = 2
  ·rw [if_pos h3, if_pos h3]
  ·rw [if_neg h3, if_neg h3]
   by_cases h4 : a = 20
   ·rw [if_pos h4, if_pos h4]; congr 1; rw [Bool.eq_iff_iff]; simp only [decide_eq_true_eq]; omega
   ·rw [if_neg h4, if_neg h4]; first | done | rfl | (congr 1; first | done | rfl | (rw [Bool.eq_iff_iff]; simp))
theorem leaf_impl (w v a b : Int) (hv0 : 0 ≤ v) (hv : v ≤ 4) (h0 : 0 ≤ b) : impl_isLeafRight.f w v a b = some (leafB w v ⟨a, b⟩) := by
 unfold impl_isLeafRight.f leafB
 by_cases h2 : a = 1
 ·rw [if_pos h2, if_pos h2, goodWord_impl w b h0]; rfl
 ·rw [if_neg h2, if_neg h2, u64_id v hv0 (by omega)]
  by_cases h3 : a = 2
  ·rw [if_pos h3, if_pos h3]
  ·rw [if_neg h3, if_neg h3]
   by_cases h4 : a = 20
   ·rw [if_pos h4, if_pos h4]
   ·rw [if_neg h4, if_neg h4]; first | done | rfl | (congr 1; first | done | rfl | (rw [Bool.eq_iff_iff]; simp))
/-- One node over the stack of kinds; the top is the list's head. -/
def stepK (w v : Int) (st : List Int) (x : Nd) : Option (List Int) :=
 if (need x.f0).2.2 = 0 then none else if leafB w v x = true then
  if (st.length : Int) < (need x.f0).1 then none else if (st.take (need x.f0).1.toNat).all (fun y => y == (need x.f0).2.1) = true then some ((need x.f0).2.2 :: st.drop (need x.f0).1.toNat) else none
 else none
def runK (w v : Int) : List Nd → List Int → Option (List Int)
 | [], st => some st
 | x :: t, st => (stepK w v st x).bind (runK w v t)
theorem rd_last (st : List Int) (a : Int) : rd ((a :: st).reverse) (((a :: st).reverse.length : Int) - 1) = a := by
 have : (((a :: st).reverse.length : Int) - 1).toNat = st.length := by simp
 unfold rd
 rw [this]
 simp [List.getD]
theorem take_last (st : List Int) (a : Int) (n : Nat) (h : n = st.length) : (a :: st).reverse.take n = st.reverse := by
 subst h
 rw [List.reverse_cons, List.take_left' (by simp)]
/-- The reference pops one part after another. -/
theorem spec_pop (w v part own : Int) (t : List Nd) (n i : Int) (m : Nat) : ∀ (st : List Int) (k : Nat), m ≤ st.length → st.length ≤ 48 → (m : Int) ≤ 2 → m + 1 < k →
  ∃ k', k ≤ k' + m + 1 ∧ spec_l2Kind.l1 k w v st.reverse m part own t n i =
   if (st.take m).all (fun y => y == part) = true then spec_l2Kind.l0 k' w v ((st.drop m).reverse ++ [own]) t n (wrap64 (i + 1)) else some 0 := by
 induction m with
 | zero =>
  intro st k hm hl h2 hk
  obtain ⟨k, rfl⟩ : ∃ m, k = m + 1 := ⟨k - 1, by omega⟩
  refine ⟨k, by omega, ?_⟩
  simp only [spec_l2Kind.l1]
  rewrite [if_neg (by omega), if_pos (by simp; omega)]
  simp
 | succ m ih =>
  intro st k hm hl h2 hk
  obtain ⟨k, rfl⟩ : ∃ m, k = m + 1 := ⟨k - 1, by omega⟩
  obtain ⟨a, st, rfl⟩ : ∃ a s, st = a :: s := by cases st with | nil => simp at hm | cons a s => exact ⟨a, s, rfl⟩
  have hlen : ((a :: st).reverse.length : Int) = (st.length : Int) + 1 := by simp
  simp only [List.length_cons] at hm hl
  have e1 : wrap64 (((a :: st).reverse.length : Int) - 1) = ((a :: st).reverse.length : Int) - 1 := wrap64_id _ (by omega) (by omega)
  have e2 : wrap64 (((m + 1 : Nat) : Int) - 1) = (m : Int) := by rw [wrap64_id _ (by omega) (by omega)]; omega
  have e3 : (a :: st).reverse.take (((a :: st).reverse.length : Int) - 1).toNat = st.reverse := take_last st a _ (by omega)
  obtain ⟨k', hk', he⟩ := ih st k (by omega) (by omega) (by omega) (by omega)
  refine ⟨k', by omega, ?_⟩
  simp only [spec_l2Kind.l1]
  rewrite [e1, rd_last, if_pos (by omega), if_pos (by omega), if_pos (by omega), e2]
  by_cases h : a = part
  ·rewrite [if_pos h, if_pos (by omega), e3, he]
   simp [h]
  ·rewrite [if_neg h, if_neg (by simp [h])]
   rfl
def okNodes (t : List Nd) : Prop := ∀ x ∈ t, 0 ≤ x.f1 ∧ x.f1 < 18446744073709551616
theorem rd_at {t : List Nd} {i : Nat} (h : i < t.length) : rd_T52 t (i : Int) = t[i] := by
 unfold rd_T52
 rw [Int.toNat_natCast, List.getD_eq_getElem?_getD, List.getElem?_eq_getElem h]; rfl
def top (r : Option (List Int)) : Int := match r with
 | some [x] => x
 | _ => 0
theorem spec_l2Kind_loop (w v : Int) (t : List Nd) (hok : okNodes t) (hv0 : 0 ≤ v) (hv : v ≤ 4) (ht : t.length ≤ 48) (d : Nat) : ∀ (i : Nat) (st : List Int) (k : Nat), i + d = t.length → st.length ≤ i → 5 * d + 70 < k →
  spec_l2Kind.l0 k w v st.reverse t (t.length : Int) (i : Int) = some (top (runK w v (t.drop i) st)) := by
 induction d with
 | zero =>
  intro i st k hi hs hk
  obtain ⟨k, rfl⟩ : ∃ m, k = m + 1 := ⟨k - 1, by omega⟩
  simp only [spec_l2Kind.l0]
  rewrite [if_neg (by omega), List.drop_eq_nil_of_le (by omega)]
  simp only [runK, List.length_reverse]
  match st with
  | [] => simp [top]
  | [a] => simp [top, rd]
  | a :: b :: s => rewrite [if_neg (by simp only [List.length_cons]; omega)]; rfl
 | succ d ih =>
  intro i st k hi hs hk
  obtain ⟨k, rfl⟩ : ∃ m, k = m + 2 := ⟨k - 2, by omega⟩
  have hit : i < t.length := by omega
  have q0 : (0 : Int) ≤ (i : Int) := by omega
  have q1 : (i : Int) < (t.length : Int) := by omega
  have q2 : 3 < k + 1 := by omega
  have q3 : 65 < k + 1 := by omega
  have q4 : i + 1 + d = t.length := by omega
  have q5 : st.length ≤ 48 := by omega
  have e1 : wrap64 ((i : Int) + 1) = ((i + 1 : Nat) : Int) := by rw [wrap64_id _ (by omega) (by omega)]; omega
  have hx := hok t[i] (List.getElem_mem hit)
  obtain ⟨mm, pp, rr, hn, b0, b1, b2, b3, b4, b5⟩ := need_is t[i].f0
  have hdrop : t.drop i = t[i] :: t.drop (i + 1) := List.drop_eq_getElem_cons hit
  simp only [spec_l2Kind.l0]
  rewrite [if_pos q1, if_pos q0, if_pos q1, rd_at hit, need_spec _ _ q2, hn]
  simp only [Option.bind_some]
  rewrite [hdrop]
  simp only [runK]
  unfold stepK
  simp only [hn]
  clear hdrop
  by_cases h0 : rr = 0
  ·rewrite [if_pos h0, if_pos h0]
   simp only [spec_l2Kind.j2, if_true]
   rfl
  ·rewrite [if_neg h0, if_neg h0, leaf_spec _ w v _ _ q3 hv0 hv hx.1 hx.2]
   clear hx
   simp only [Option.bind_some]
   by_cases h1 : leafB w v t[i] = true
   ·rewrite [if_pos h1, if_pos h1]
    simp only [spec_l2Kind.j2, List.length_reverse]
    by_cases h2 : (st.length : Int) < mm
    ·rewrite [if_pos (by simpa using h2), if_pos h2]
     rfl
    ·rewrite [if_neg (by simpa using h2), if_neg h2]
     obtain ⟨m, hm⟩ := Int.eq_ofNat_of_zero_le b0
     rw [hm]
     have hm2 : (m : Int) ≤ 2 := by omega
     obtain ⟨k', hk', he⟩ := spec_pop w v pp rr t (t.length : Int) (i : Int) m st k (by omega) q5 hm2 (by omega)
     rewrite [he, Int.toNat_natCast, e1]
     by_cases h3 : (st.take m).all (fun y => y == pp) = true
     ·rewrite [if_pos h3, if_pos h3]
      have := ih (i + 1) (rr :: st.drop m) k' q4 (by simp only [List.length_cons, List.length_drop]; omega) (by omega)
      rw [List.reverse_cons] at this
      rw [this]
      rfl
     ·rewrite [if_neg h3, if_neg h3]
      rfl
   ·rewrite [if_neg h1, if_neg h1]
    simp only [spec_l2Kind.j2, if_true]
    rfl
/-- The kind of a good term, else 0. -/
def kindT (w v : Int) (t : List Nd) : Int :=
 if 1 ≤ w ∧ w ≤ 64 ∧ 1 ≤ v ∧ v ≤ 4 ∧ 1 ≤ t.length ∧ t.length ≤ 48 then top (runK w v t []) else 0
theorem l2Kind_val (k : Nat) (w v : Int) (t : List Nd) (hok : okNodes t) (hk : 400 < k) : spec_l2Kind.f k w v t = some (kindT w v t) := by
 obtain ⟨k, rfl⟩ : ∃ m, k = m + 1 := ⟨k - 1, by omega⟩
 unfold spec_l2Kind.f kindT
 rw [l1Wide_val, l1In_val, l1In_val]
 simp only [Option.bind_some, decide_eq_true_eq, spec_l2Kind.j0]
 by_cases h1 : 1 ≤ w ∧ w ≤ 64
 ·rewrite [if_pos h1]
  by_cases h2 : 1 ≤ v ∧ v ≤ 4
  ·rewrite [if_pos h2]
   by_cases h3 : 1 ≤ (t.length : Int) ∧ (t.length : Int) ≤ 48
   ·rewrite [if_neg (by simp [h3]), if_pos (by omega)]
    have := spec_l2Kind_loop w v t hok (by omega) h2.2 (by omega) t.length 0 [] k (by omega) (by simp) (by omega)
    simpa using this
   ·rewrite [if_pos (by rw [decide_eq_false h3]; rfl), if_neg (by omega)]
    rfl
  ·rewrite [if_neg h2, if_pos trivial, if_neg (by omega)]
   rfl
 ·rewrite [if_neg h1, if_pos trivial, if_neg (by omega)]
  rfl
theorem goodTerm_spec (k : Nat) (w v : Int) (t : List Nd) (hok : okNodes t) (hk : 400 < k) : spec_GoodTerm.f k w v t = some (decide (kindT w v t > 0)) := by
 unfold spec_GoodTerm.f
 rw [l2Kind_val k w v t hok hk]
 rfl
theorem drop_rev (st : List Int) (m : Nat) (h : m ≤ st.length) : st.reverse.drop (st.length - m) = (st.take m).reverse := by
 rw [List.drop_reverse]; congr 2; omega
theorem take_rev (st : List Int) (m : Nat) (h : m ≤ st.length) : st.reverse.take (st.length - m) = (st.drop m).reverse := by
 rw [List.take_reverse]; congr 2; omega
theorem any_ne_all (l : List Int) (p : Int) : (l.reverse.any fun x => x != p) = !(l.all fun y => y == p) := by
 rw [List.any_reverse, List.not_all_eq_any_not]
 rfl
/-- The program's verdict: one value remains. -/
def oneLeft (r : Option (List Int)) : Bool := match r with
 | some [_] => true
 | _ => false
theorem impl_GoodTerm_loop (w v : Int) (t : List Nd) (hok : okNodes t) (hv0 : 0 ≤ v) (hv : v ≤ 4) (ht : t.length ≤ 48) (d : Nat) : ∀ (i : Nat) (st : List Int) (k : Nat), i + d = t.length → st.length ≤ i → d + 10 < k →
  impl_GoodTerm.l0 k w v st.reverse t (t.length : Int) (i : Int) = some (oneLeft (runK w v (t.drop i) st)) := by
 induction d with
 | zero =>
  intro i st k hi hs hk
  obtain ⟨k, rfl⟩ : ∃ m, k = m + 1 := ⟨k - 1, by omega⟩
  simp only [impl_GoodTerm.l0]
  rw [if_neg (by omega), List.drop_eq_nil_of_le (by omega)]
  simp only [runK, List.length_reverse]
  match st with
  | [] => rfl
  | [a] => rfl
  | a :: b :: s => simp only [List.length_cons, oneLeft, Option.some.injEq]; rw [beq_eq_false_iff_ne]; omega
 | succ d ih =>
  intro i st k hi hs hk
  obtain ⟨k, rfl⟩ : ∃ m, k = m + 1 := ⟨k - 1, by omega⟩
  have hit : i < t.length := by omega
  have q0 : (0 : Int) ≤ (i : Int) := by omega
  have q1 : (i : Int) < (t.length : Int) := by omega
  have q2 : 3 < k := by omega
  have q4 : i + 1 + d = t.length := by omega
  have q5 : st.length ≤ 48 := by omega
  have e1 : wrap64 ((i : Int) + 1) = ((i + 1 : Nat) : Int) := by rw [wrap64_id _ (by omega) (by omega)]; omega
  have hx := hok t[i] (List.getElem_mem hit)
  obtain ⟨mm, pp, rr, hn, b0, b1, b2, b3, b4, b5⟩ := need_is t[i].f0
  obtain ⟨n1, n2, n3⟩ := needI_eq t[i].f0
  rw [hn] at n1 n2 n3
  simp only at n1 n2 n3
  have hdrop : t.drop i = t[i] :: t.drop (i + 1) := List.drop_eq_getElem_cons hit
  simp only [impl_GoodTerm.l0]
  rewrite [if_pos q1, if_pos q0, if_pos q1, rd_at hit, need_impl _ _ q2]
  simp only [Option.bind_some]
  rewrite [n1, n2, hdrop]
  simp only [runK]
  unfold stepK
  simp only [hn]
  clear hdrop n1 n2 hn
  by_cases h0 : rr = 0
  ·rewrite [if_pos h0, if_pos h0]
   rfl
  ·rewrite [if_neg h0, if_neg h0, leaf_impl w v _ _ hv0 hv hx.1]
   clear hx
   simp only [Option.bind_some]
   by_cases h1 : leafB w v t[i] = true
   ·rewrite [if_pos h1, if_pos h1]
    clear h1
    have hl : (st.reverse.length : Int) = (st.length : Int) := by simp
    obtain ⟨m, hm⟩ := Int.eq_ofNat_of_zero_le b0
    subst hm
    have e2 : wrap64 ((st.reverse.length : Int) - (m : Int)) = (st.length : Int) - (m : Int) := by rw [wrap64_id _ (by omega) (by omega), hl]
    rewrite [e2]
    by_cases h2 : (st.length : Int) < (m : Int)
    ·rewrite [if_pos (by omega), if_pos h2]
     rfl
    ·have hms : m ≤ st.length := by omega
     have e3 : ((st.length : Int) - (m : Int)).toNat = st.length - m := by omega
     rewrite [if_neg (by omega), if_pos (by omega), if_pos (by omega), if_neg h2, e3, drop_rev st m hms, take_rev st m hms]
     unfold impl_GoodTerm_any.f
     simp only [Option.bind_some]
     rewrite [any_ne_all, Int.toNat_natCast]
     have hpart : ((st.take m).all fun y => y == (needI t[i].f0).2.1) = ((st.take m).all fun y => y == pp) := by
      by_cases hz : (m : Int) = 0
      ·obtain rfl : m = 0 := by omega
       rfl
      ·rw [n3 hz]
     rewrite [hpart]
     clear hpart n3
     by_cases h3 : (st.take m).all (fun y => y == pp) = true
     ·rewrite [if_neg (by rw [h3]; decide), if_pos h3, if_pos (by simp; omega), e1]
      have := ih (i + 1) (rr :: st.drop m) k q4 (by simp only [List.length_cons, List.length_drop]; omega) (by omega)
      rw [List.reverse_cons] at this
      exact this
     ·rewrite [if_pos (by simpa using h3), if_neg h3]
      rfl
   ·rewrite [if_neg h1, if_neg h1]
    rfl
theorem step_pos (w v : Int) (st : List Int) (x : Nd) (st' : List Int) (h : stepK w v st x = some st') (hs : ∀ y ∈ st, y = 1 ∨ y = 2) : ∀ y ∈ st', y = 1 ∨ y = 2 := by
 obtain ⟨mm, pp, rr, hn, b0, b1, b2, b3, b4, b5⟩ := need_is x.f0
 unfold stepK at h
 rw [hn] at h
 simp only at h
 split at h
 ·cases h
 ·split at h
  ·split at h
   ·cases h
   ·split at h
    ·obtain rfl := Option.some.inj h
     intro y hy
     rcases List.mem_cons.1 hy with rfl | hy
     ·omega
     ·exact hs y (List.mem_of_mem_drop hy)
    ·cases h
  ·cases h
theorem run_pos (w v : Int) (t : List Nd) : ∀ st st', runK w v t st = some st' → (∀ y ∈ st, y = 1 ∨ y = 2) → ∀ y ∈ st', y = 1 ∨ y = 2 := by
 induction t with
 | nil => intro st st' h hs; simp only [runK, Option.some.injEq] at h; subst h; exact hs
 | cons x t ih =>
  intro st st' h hs
  simp only [runK, Option.bind_eq_some_iff] at h
  obtain ⟨s1, h1, h2⟩ := h
  exact ih _ _ h2 (step_pos w v st x s1 h1 hs)
theorem oneLeft_top (w v : Int) (t : List Nd) : oneLeft (runK w v t []) = decide (top (runK w v t []) > 0) := by
 cases h : runK w v t [] with
 | none => rfl
 | some st =>
  have hp := run_pos w v t [] st h (fun y hy => absurd hy (by simp))
  match st with
  | [] => rfl
  | [a] => have := hp a (by simp); show true = decide (a > 0); symm; exact decide_eq_true (by omega)
  | a :: b :: s => rfl
theorem goodTerm_impl (k : Nat) (w v : Int) (t : List Nd) (hok : okNodes t) (hk : 400 < k) : impl_GoodTerm.f k w v t = some (decide (kindT w v t > 0)) := by
 obtain ⟨k, rfl⟩ : ∃ m, k = m + 1 := ⟨k - 1, by omega⟩
 unfold impl_GoodTerm.f kindT
 rw [isWide_val, isVars_val]
 simp only [Option.bind_some, decide_eq_true_eq, impl_GoodTerm.j0]
 by_cases h1 : 1 ≤ w ∧ w ≤ 64
 ·rewrite [if_pos h1]
  by_cases h2 : 1 ≤ v ∧ v ≤ 4
  ·rewrite [if_pos h2]
   by_cases h3 : (t.length : Int) < 1
   ·rewrite [if_pos h3, if_pos trivial, if_neg (by omega)]
    rfl
   ·rewrite [if_neg h3]
    by_cases h4 : (t.length : Int) > 48
    ·rewrite [if_pos h4, if_neg (by omega)]
     rfl
    ·rewrite [if_neg h4, if_pos (by omega)]
     have := impl_GoodTerm_loop w v t hok (by omega) h2.2 (by omega) t.length 0 [] k (by omega) (by simp) (by omega)
     rw [List.drop_zero] at this
     rw [← oneLeft_top]
     exact this
  ·rewrite [if_neg h2, if_pos trivial, if_neg (by omega)]
   rfl
 ·rewrite [if_neg h1, if_pos trivial, if_neg (by omega)]
  rfl
end Go.Proofs.Ytckdgmbmjfhodaa.Pure

namespace Go.Proofs.Ytckdgmbmjfhodaa.Pure
open Go.RowKit Go.Proofs.Ytckdgmbmjfhodaa.X Go.Proofs.YtckdgmbmjfhodaaW.PrintWords Go.Proofs.YtckdgmbmjfhodaaW.PrintLast Go.Proofs.Ytckdgmbmjfhodaa.Bits

abbrev Nl := S54
def conv (x : Nl) : Nd := ⟨x.f0, x.f1⟩
theorem rdl_at {t : List Nl} {i : Nat} (h : i < t.length) : rd_T54 t (i : Int) = t[i] := by
 unfold rd_T54
 rw [Int.toNat_natCast, List.getD_eq_getElem?_getD, List.getElem?_eq_getElem h]; rfl
theorem sz_val (l : List Nl) (hl : l.length ≤ 9223372036854775807) : laws_szNodeS.f l 1048576 = some (if 1048576 < l.length then -1 else 1048576 - (l.length : Int)) := by
 unfold laws_szNodeS.f
 rw [wrap64_id _ (by omega) (by omega)]
 by_cases h : 1048576 < l.length
 ·rw [if_pos (by omega), if_pos h]
 ·rw [if_neg (by omega), if_neg h]
theorem set_mid {α : Type} (a b : List α) (x y : α) (n : Nat) (h : n = a.length) : (a ++ x :: b).set n y = a ++ y :: b := by
 subst h; simp
theorem toNodes_loop (l : List Nl) (hl : l.length ≤ 1048576) (d : Nat) : ∀ (i : Nat) (k : Nat), i + d = l.length → d < k →
  laws_toNodeS.l0 k l ((l.take i).map conv ++ List.replicate d z52) (i : Int) = some (l.map conv) := by
 induction d with
 | zero =>
  intro i k hi hk
  obtain ⟨k, rfl⟩ : ∃ m, k = m + 1 := ⟨k - 1, by omega⟩
  simp only [laws_toNodeS.l0]
  rw [if_neg (by omega), List.take_of_length_le (by omega)]
  simp
 | succ d ih =>
  intro i k hi hk
  obtain ⟨k, rfl⟩ : ∃ m, k = m + 1 := ⟨k - 1, by omega⟩
  have hit : i < l.length := by omega
  have e1 : wrap64 ((i : Int) + 1) = ((i + 1 : Nat) : Int) := by rw [wrap64_id _ (by omega) (by omega)]; omega
  simp only [laws_toNodeS.l0]
  rewrite [if_pos (by omega), if_pos (by omega)]
  unfold laws_toNode.f
  simp only [Option.bind_some]
  rewrite [if_pos (by simp; omega), rdl_at hit, e1, Int.toNat_natCast, List.replicate_succ, set_mid _ _ _ _ _ (by simp; omega)]
  have h2 : (l.take i).map conv ++ (⟨l[i].f0, l[i].f1⟩ : Nd) :: List.replicate d z52 = (l.take (i + 1)).map conv ++ List.replicate d z52 := by
   rw [List.take_add_one, List.getElem?_eq_getElem hit, Option.toList_some, List.map_append, List.append_assoc]
   rfl
  rewrite [h2]
  exact ih (i + 1) k (by omega) (by omega)
theorem toNodes_val (k : Nat) (l : List Nl) (hl : l.length ≤ 1048576) (hk : l.length < k) : laws_toNodeS.f k l = some (l.map conv) := by
 unfold laws_toNodeS.f
 rw [if_pos (by omega), Int.toNat_natCast, if_pos (by omega)]
 have := toNodes_loop l hl l.length 0 k (by omega) hk
 simpa using this
theorem eqNodes_loop (l : List Nd) (hl : l.length ≤ 1048576) (d : Nat) : ∀ (i : Nat) (k : Nat), i + d = l.length → d < k → laws_eqNodeS.l0 k l l (i : Int) = some true := by
 induction d with
 | zero =>
  intro i k hi hk
  obtain ⟨k, rfl⟩ : ∃ m, k = m + 1 := ⟨k - 1, by omega⟩
  simp only [laws_eqNodeS.l0]
  rw [if_neg (by omega)]
 | succ d ih =>
  intro i k hi hk
  obtain ⟨k, rfl⟩ : ∃ m, k = m + 1 := ⟨k - 1, by omega⟩
  have e1 : wrap64 ((i : Int) + 1) = ((i + 1 : Nat) : Int) := by rw [wrap64_id _ (by omega) (by omega)]; omega
  simp only [laws_eqNodeS.l0]
  rewrite [if_pos (by omega), if_pos (by omega), if_pos (by omega)]
  unfold laws_eqNode.f
  rewrite [if_pos rfl, if_pos rfl]
  simp only [Option.bind_some, if_true]
  rewrite [e1]
  exact ih (i + 1) k (by omega) (by omega)
theorem eqNodes_val (k : Nat) (l : List Nd) (hl : l.length ≤ 1048576) (hk : l.length < k) : laws_eqNodeS.f k l l = some true := by
 unfold laws_eqNodeS.f
 rw [if_pos rfl]
 exact eqNodes_loop l hl l.length 0 k (by omega) hk
theorem conv_ok (l : List Nl) (h : ∀ y ∈ l, wf54 y) : okNodes (l.map conv) := by
 intro x hx
 obtain ⟨y, hy, rfl⟩ := List.mem_map.1 hx
 exact wf_u64 (h y hy).2
/-- How many rounds serve every loop over such a list. -/
def rounds (l : List Nl) : Nat := 6 * l.length + 2000
theorem runK_append (w v : Int) (t u : List Nd) : ∀ st, runK w v (t ++ u) st = (runK w v t st).bind (runK w v u) := by
 induction t with
 | nil => intro st; rfl
 | cons x t ih =>
  intro st
  simp only [List.cons_append, runK, Option.bind_assoc]
  congr 1
  funext s
  exact ih s
theorem step_head (w v : Int) (st st' : List Int) (x : Nd) (h : stepK w v st x = some st') : ∃ s, st' = (need x.f0).2.2 :: s := by
 unfold stepK at h
 split at h
 ·cases h
 ·split at h
  ·split at h
   ·cases h
   ·split at h
    ·exact ⟨_, (Option.some.inj h).symm⟩
    ·cases h
  ·cases h
theorem kindT_last (w v : Int) (t : List Nd) (h : kindT w v t > 0) : ∃ u x, t = u ++ [x] ∧ kindT w v t = (need x.f0).2.2 := by
 unfold kindT at h ⊢
 split at h
 ·rename_i hc
  rw [if_pos hc]
  obtain ⟨u, x, rfl⟩ : ∃ u x, t = u ++ [x] := by
   rcases List.eq_nil_or_concat t with h0 | ⟨u, x, h0⟩
   ·subst h0; simp at hc
   ·exact ⟨u, x, by simpa using h0⟩
  refine ⟨u, x, rfl, ?_⟩
  rw [runK_append] at h ⊢
  cases h1 : runK w v u [] with
  | none => rw [h1] at h; simp [top] at h
  | some s =>
   rw [h1] at h
   simp only [Option.bind_some, runK] at h ⊢
   cases h2 : stepK w v s x with
   | none => rw [h2] at h; simp [top] at h
   | some s2 =>
    obtain ⟨s3, rfl⟩ := step_head w v s s2 x h2
    rw [h2] at h
    simp only [Option.bind_some] at h ⊢
    match s3 with
    | [] => rfl
    | b :: r => simp [top] at h
 ·exact absurd h (by decide)
theorem kindOf_val (k : Nat) (w v : Int) (t : List Nd) (h : kindT w v t > 0) (hk : 400 < k) : impl_kindOf.f k t = some (kindT w v t) := by
 have hlen : t.length ≤ 48 := by
  unfold kindT at h
  split at h
  ·omega
  ·exact absurd h (by decide)
 obtain ⟨u, x, rfl, he⟩ := kindT_last w v t h
 rw [he]
 have e1 : wrap64 (((u ++ [x]).length : Int) - 1) = (u.length : Int) := by
  rw [wrap64_id _ (by simp only [List.length_append, List.length_cons, List.length_nil]; omega) (by omega)]; simp
 have e2 : rd_T52 (u ++ [x]) (u.length : Int) = x := by rw [rd_at (by simp)]; simp
 unfold impl_kindOf.f
 rw [e1, if_pos (by omega), if_pos (by simp only [List.length_append, List.length_cons, List.length_nil]; omega), e2, need_impl _ _ (by omega)]
 simp only [Option.bind_some]
 rw [(needI_eq x.f0).2.1]
theorem rdNode_at {t : List Nd} {i : Nat} (h : i < t.length) : rd_T52 t (i : Int) = t[i] := rd_at h
end Go.Proofs.Ytckdgmbmjfhodaa.Pure

namespace Go.Proofs.Ytckdgmbmjfhodaa.Pure
open Go.RowKit Go.Proofs.Ytckdgmbmjfhodaa.X Go.Proofs.YtckdgmbmjfhodaaW.PrintWords Go.Proofs.YtckdgmbmjfhodaaW.PrintLast Go.Proofs.YtckdgmbmjfhodaaW.PrintMore Go.Proofs.Ytckdgmbmjfhodaa.Bits
/-- A list of n elements, numbered on from m. -/
def mkNode (m : Int) : Nat → List S52
 | 0 => []
 | n + 1 => ⟨m, m + 1⟩ :: mkNode (m + 2) n
theorem mkNode_len (n : Nat) : ∀ m, (mkNode m n).length = n := by
 induction n with
 | zero => intro m; rfl
 | succ n ih => intro m; simp [mkNode, ih]
theorem mkNode_snoc (n : Nat) : ∀ m, mkNode m (n + 1) = mkNode m n ++ [⟨m + 2 * (n : Int), m + 2 * (n : Int) + 1⟩] := by
 induction n with
 | zero => intro m; simp [mkNode]
 | succ n ih =>
  intro m
  rw [mkNode, ih (m + 2), mkNode, List.cons_append]
  have : m + 2 + 2 * (n : Int) = m + 2 * ((n + 1 : Nat) : Int) := by omega
  rw [this]
theorem mkNode_at (m : Int) (n i : Nat) (h : i < n) : rd_T52 (mkNode m n) (i : Int) = ⟨m + 2 * (i : Int), m + 2 * (i : Int) + 1⟩ := by
 induction n generalizing m i with
 | zero => omega
 | succ n ih =>
  cases i with
  | zero => simp [rd_T52, mkNode]
  | succ i =>
   have := ih (m + 2) i (by omega)
   unfold rd_T52 at this ⊢
   rw [Int.toNat_natCast] at this ⊢
   rw [mkNode, List.getD_cons_succ, this]
   have e : m + 2 + 2 * (i : Int) = m + 2 * ((i + 1 : Nat) : Int) := by omega
   rw [e]
theorem markNode_loop (b : Int) (hb : 0 ≤ b) (hb2 : b ≤ 100000000) (l : List S52) (hl : l.length ≤ 1048576) (d : Nat) : ∀ (i k : Nat), i + d = l.length → d < k →
  laws_markNodeS.l0 k (mkNode b i ++ l.drop i) (b + 2 * (i : Int)) (i : Int) = some (b + 2 * (l.length : Int), mkNode b l.length) := by
 induction d with
 | zero =>
  intro i k hi hk
  obtain ⟨k, rfl⟩ : ∃ m, k = m + 1 := ⟨k - 1, by omega⟩
  obtain rfl : i = l.length := by omega
  simp only [laws_markNodeS.l0]
  rw [if_neg (by simp [mkNode_len]), List.drop_eq_nil_of_le (by omega), List.append_nil]
 | succ d ih =>
  intro i k hi hk
  obtain ⟨k, rfl⟩ : ∃ m, k = m + 1 := ⟨k - 1, by omega⟩
  have hit : i < l.length := by omega
  have e1 : wrap64 ((i : Int) + 1) = ((i + 1 : Nat) : Int) := by rw [wrap64_id _ (by omega) (by omega)]; omega
  have q0 : wrap64 (b + 2 * (i : Int) + 1) = b + 2 * (i : Int) + 1 := by rw [wrap64_id _ (by omega) (by omega)]
  have q1 : wrap64 (b + 2 * (i : Int) + 1 + 1) = b + 2 * ((i + 1 : Nat) : Int) := by rw [wrap64_id _ (by omega) (by omega)]; omega
  have w1 : IntKind.u64.wrap (b + 2 * (i : Int) + 1) = b + 2 * (i : Int) + 1 := u64_id _ (by omega) (by omega)
  have hd : l.drop i = l[i] :: l.drop (i + 1) := List.drop_eq_getElem_cons hit
  have hset : ∀ y z : S52, (mkNode b i ++ y :: l.drop (i + 1)).set i z = mkNode b i ++ z :: l.drop (i + 1) := fun y z => set_mid _ _ _ _ _ (by rw [mkNode_len])
  have hrd : ∀ y : S52, rd_T52 (mkNode b i ++ y :: l.drop (i + 1)) (i : Int) = y := by
   intro y
   rw [rdNode_at (by simp [mkNode_len]), List.getElem_append_right (by rw [mkNode_len]; omega)]
   simp [mkNode_len]
  simp only [laws_markNodeS.l0]
  rewrite [if_pos (by simp [mkNode_len]; omega), if_pos (by omega)]
  (try simp only [Option.bind_some])
  rewrite [hd, Int.toNat_natCast, hset, hset, hrd, hrd, e1, q0, q1, w1]
  have := ih (i + 1) k (by omega) (by omega)
  rw [mkNode_snoc, List.append_assoc] at this
  exact this
theorem markNode_val (k : Nat) (b : Int) (hb : 0 ≤ b) (hb2 : b ≤ 100000000) (l : List S52) (hl : l.length ≤ 1048576) (hk : l.length < k) : laws_markNodeS.f k l b = some (b + 2 * (l.length : Int), mkNode b l.length) := by
 have := markNode_loop b hb hb2 l hl l.length 0 k (by omega) hk
 unfold laws_markNodeS.f
 simpa [mkNode] using this
theorem heldNode_loop (b : Int) (hb : 0 ≤ b) (hb2 : b ≤ 100000000) (n : Nat) (hn : n ≤ 1048576) (d : Nat) : ∀ (i k : Nat), i + d = n → d < k →
  laws_heldNodeS.l0 k (mkNode b n) (b + 2 * (i : Int)) (i : Int) = some (b + 2 * (n : Int)) := by
 induction d with
 | zero =>
  intro i k hi hk
  obtain ⟨k, rfl⟩ : ∃ m, k = m + 1 := ⟨k - 1, by omega⟩
  obtain rfl : i = n := by omega
  simp only [laws_heldNodeS.l0]
  rw [if_neg (by rw [mkNode_len]; omega)]
 | succ d ih =>
  intro i k hi hk
  obtain ⟨k, rfl⟩ : ∃ m, k = m + 1 := ⟨k - 1, by omega⟩
  have e1 : wrap64 ((i : Int) + 1) = ((i + 1 : Nat) : Int) := by rw [wrap64_id _ (by omega) (by omega)]; omega
  have q0 : wrap64 (b + 2 * (i : Int) + 1) = b + 2 * (i : Int) + 1 := by rw [wrap64_id _ (by omega) (by omega)]
  have q1 : wrap64 (b + 2 * (i : Int) + 1 + 1) = b + 2 * ((i + 1 : Nat) : Int) := by rw [wrap64_id _ (by omega) (by omega)]; omega
  have w1 : IntKind.u64.wrap (b + 2 * (i : Int) + 1) = b + 2 * (i : Int) + 1 := u64_id _ (by omega) (by omega)
  simp only [laws_heldNodeS.l0]
  rewrite [if_pos (by rw [mkNode_len]; omega), if_pos (by omega), mkNode_at b n i (by omega), q0, q1, w1]
  rewrite [if_pos (by rfl), if_pos (by rfl), e1]
  exact ih (i + 1) k (by omega) (by omega)
theorem heldNode_val (k : Nat) (b : Int) (hb : 0 ≤ b) (hb2 : b ≤ 100000000) (n : Nat) (hn : n ≤ 1048576) (hk : n < k) : laws_heldNodeS.f k (mkNode b n) b = some (b + 2 * (n : Int)) := by
 have := heldNode_loop b hb hb2 n hn n 0 k (by omega) hk
 unfold laws_heldNodeS.f
 simpa using this

end Go.Proofs.Ytckdgmbmjfhodaa.Pure

namespace Go.Proofs.Ytckdgmbmjfhodaa.Pure
open Go.RowKit Go.Proofs.Ytckdgmbmjfhodaa.X Go.Proofs.YtckdgmbmjfhodaaW.PrintWords Go.Proofs.YtckdgmbmjfhodaaW.PrintLast Go.Proofs.YtckdgmbmjfhodaaW.PrintMore Go.Proofs.Ytckdgmbmjfhodaa.Bits
def szN (n : Nat) (a : Int) : Int := if a - (n : Int) < 0 then -1 else a - (n : Int)
theorem szN_ok {n : Nat} {a : Int} (h : ¬ szN n a < 0) : (n : Int) ≤ a ∧ 0 ≤ szN n a ∧ szN n a ≤ a := by
 unfold szN at h ⊢
 split at h <;> rename_i hc
 ·omega
 ·rw [if_neg hc]; omega
theorem szN_val (l : List Nl) (a : Int) (h0 : 0 ≤ a) (h1 : a ≤ 1048576) (hl : l.length ≤ 9223372036854775807) : laws_szNodeS.f l a = some (szN l.length a) := by
 unfold laws_szNodeS.f szN
 rw [wrap64_id _ (by omega) (by omega)]
 by_cases h : a - (l.length : Int) < 0
 ·rw [if_pos h, if_pos h]
 ·rw [if_neg h, if_neg h]
theorem isTermOf_val (k : Nat) (w v : Int) (t : List Nd) (kd : Int) (hok : okNodes t) (hkd : 0 < kd) (hk : 400 < k) : impl_isTermOf.f k w v t kd = some (kindT w v t == kd) := by
 unfold impl_isTermOf.f
 rewrite [goodTerm_impl k w v t hok hk]
 simp only [Option.bind_some, decide_eq_true_eq]
 by_cases hg : kindT w v t > 0
 ·rewrite [if_pos hg, kindOf_val k w v t hg hk]; rfl
 ·rewrite [if_neg hg]
  have : (kindT w v t == kd) = false := beq_eq_false_iff_ne.mpr (by omega)
  rw [this]
theorem rdLL_at {α : Type} {t : List (List α)} {i : Nat} (h : i < t.length) : t.getD ((i : Int)).toNat [] = t[i] := by
 rw [Int.toNat_natCast, List.getD_eq_getElem?_getD, List.getElem?_eq_getElem h]; rfl
theorem rdSSl_at {t : List (List Nl)} {i : Nat} (h : i < t.length) : rd_L3 t (i : Int) = t[i] := rdLL_at h
theorem rdSS_at {t : List (List Nd)} {i : Nat} (h : i < t.length) : rd_L5 t (i : Int) = t[i] := rdLL_at h
/-- Rows measured: what is left, or -1. -/
def szR : List (List Nl) → Int → Int
 | [], a => a
 | x :: t, a => if szN x.length a < 0 then -1 else szR t (szN x.length a)
theorem szR_loop (l : List (List Nl)) (hb : ∀ x ∈ l, x.length ≤ 9223372036854775807) (hl : l.length ≤ 1048576) (d : Nat) : ∀ (i k : Nat) (a : Int), i + d = l.length → d < k → 0 ≤ a → a ≤ 1048576 →
  laws_szNodeSS.l0 k l a (i : Int) = some (szR (l.drop i) a) := by
 induction d with
 | zero =>
  intro i k a hi hk h0 h1
  obtain ⟨k, rfl⟩ : ∃ m, k = m + 1 := ⟨k - 1, by omega⟩
  simp only [laws_szNodeSS.l0]
  rewrite [if_neg (by omega), List.drop_eq_nil_of_le (by omega)]; rfl
 | succ d ih =>
  intro i k a hi hk h0 h1
  obtain ⟨k, rfl⟩ : ∃ m, k = m + 1 := ⟨k - 1, by omega⟩
  have hit : i < l.length := by omega
  have e1 : wrap64 ((i : Int) + 1) = ((i + 1 : Nat) : Int) := by rw [wrap64_id _ (by omega) (by omega)]; omega
  have hd : l.drop i = l[i] :: l.drop (i + 1) := List.drop_eq_getElem_cons hit
  simp only [laws_szNodeSS.l0]
  rewrite [if_pos (by omega), if_pos (by omega), rdSSl_at hit, szN_val _ a h0 h1 (hb _ (List.getElem_mem hit)), hd, szR]
  simp only [Option.bind_some]
  by_cases h2 : szN l[i].length a < 0
  ·rewrite [if_pos h2, if_pos h2]; rfl
  ·have h3 := szN_ok h2
   rewrite [if_neg h2, e1, if_neg h2]
   exact ih (i + 1) k _ (by omega) (by omega) h3.2.1 (by omega)
theorem szR_ok (l : List (List Nl)) : ∀ a, ¬ szR l a < 0 → ∀ x ∈ l, (x.length : Int) ≤ a := by
 induction l with
 | nil => intro a _ x hx; cases hx
 | cons b t ih =>
  intro a h x hx
  rw [szR] at h
  by_cases h2 : szN b.length a < 0
  ·rw [if_pos h2] at h; exact absurd (show (-1 : Int) < 0 by decide) h
  ·rw [if_neg h2] at h
   have h3 := szN_ok h2
   rcases List.mem_cons.1 hx with rfl | hx
   ·exact h3.1
   ·have := ih _ h x hx; omega
def szRR (l : List (List Nl)) (a : Int) : Int := if a - (l.length : Int) < 0 then -1 else szR l (a - (l.length : Int))
theorem szRR_val (l : List (List Nl)) (hb : ∀ x ∈ l, x.length ≤ 9223372036854775807) (hl : l.length ≤ 9223372036854775807) (a : Int) (h0 : 0 ≤ a) (h1 : a ≤ 1048576) (k : Nat) (hk : 1048576 < k) : laws_szNodeSS.f k l a = some (szRR l a) := by
 unfold laws_szNodeSS.f szRR
 rewrite [wrap64_id _ (by omega) (by omega)]
 by_cases h2 : a - (l.length : Int) < 0
 ·rewrite [if_pos h2, if_pos h2]; rfl
 ·rewrite [if_neg h2, if_neg h2]
  have := szR_loop l hb (by omega) l.length 0 k (a - (l.length : Int)) (by omega) (by omega) (by omega) (by omega)
  rw [Int.natCast_zero, List.drop_zero] at this
  exact this
theorem szRR_ok {l : List (List Nl)} {a : Int} (h1 : a ≤ 1048576) (h : ¬ szRR l a < 0) : l.length ≤ 1048576 ∧ ∀ x ∈ l, x.length ≤ 1048576 := by
 unfold szRR at h
 by_cases h2 : a - (l.length : Int) < 0
 ·rw [if_pos h2] at h; exact absurd (show (-1 : Int) < 0 by decide) h
 ·rw [if_neg h2] at h
  refine ⟨by omega, fun x hx => ?_⟩
  have := szR_ok l _ h x hx
  omega
def convS (l : List (List Nl)) : List (List Nd) := l.map fun x => x.map conv
theorem convS_len (l : List (List Nl)) : (convS l).length = l.length := by simp [convS]
theorem convS_at (l : List (List Nl)) (i : Nat) (h : i < l.length) : (convS l)[i]'(by rw [convS_len]; exact h) = l[i].map conv := by simp [convS]
theorem toSS_loop (l : List (List Nl)) (hl : l.length ≤ 1048576) (hf : ∀ x ∈ l, x.length ≤ 1048576) (d : Nat) : ∀ (i k : Nat), i + d = l.length → d + 1048576 < k →
  laws_toNodeSS.l0 k l ((convS l).take i ++ List.replicate d []) (i : Int) = some (convS l) := by
 have hcl := convS_len l
 induction d with
 | zero =>
  intro i k hi hk
  obtain ⟨k, rfl⟩ : ∃ m, k = m + 1 := ⟨k - 1, by omega⟩
  simp only [laws_toNodeSS.l0]
  rewrite [if_neg (by omega), List.take_of_length_le (by omega)]; simp
 | succ d ih =>
  intro i k hi hk
  obtain ⟨k, rfl⟩ : ∃ m, k = m + 1 := ⟨k - 1, by omega⟩
  have hit : i < l.length := by omega
  have hit2 : i < (convS l).length := by omega
  have e1 : wrap64 ((i : Int) + 1) = ((i + 1 : Nat) : Int) := by rw [wrap64_id _ (by omega) (by omega)]; omega
  have hm := hf _ (List.getElem_mem hit)
  simp only [laws_toNodeSS.l0]
  rewrite [if_pos (by omega), if_pos (by omega), rdSSl_at hit, toNodes_val k _ (by omega) (by omega)]
  simp only [Option.bind_some]
  rewrite [if_pos (by simp; omega), e1, Int.toNat_natCast, List.replicate_succ, set_mid _ _ _ _ _ (by simp; omega)]
  have h2 : (convS l).take i ++ l[i].map conv :: List.replicate d [] = (convS l).take (i + 1) ++ List.replicate d [] := by
   rw [List.take_add_one, List.getElem?_eq_getElem hit2, Option.toList_some, List.append_assoc, convS_at l i hit]; rfl
  rewrite [h2]
  exact ih (i + 1) k (by omega) (by omega)
theorem toSS_val (k : Nat) (l : List (List Nl)) (hl : l.length ≤ 1048576) (hf : ∀ x ∈ l, x.length ≤ 1048576) (hk : 3000000 < k) : laws_toNodeSS.f k l = some (convS l) := by
 unfold laws_toNodeSS.f
 rewrite [if_pos (by omega), Int.toNat_natCast, if_pos (by omega)]
 have := toSS_loop l hl hf l.length 0 k (by omega) (by omega)
 rw [List.take_zero, List.nil_append, Int.natCast_zero] at this
 exact this
theorem eqSS_loop (l : List (List Nd)) (hl : l.length ≤ 1048576) (hf : ∀ x ∈ l, x.length ≤ 1048576) (d : Nat) : ∀ (i k : Nat), i + d = l.length → d + 1048576 < k → laws_eqNodeSS.l0 k l l (i : Int) = some true := by
 induction d with
 | zero =>
  intro i k hi hk
  obtain ⟨k, rfl⟩ : ∃ m, k = m + 1 := ⟨k - 1, by omega⟩
  simp only [laws_eqNodeSS.l0]
  rewrite [if_neg (by omega)]; rfl
 | succ d ih =>
  intro i k hi hk
  obtain ⟨k, rfl⟩ : ∃ m, k = m + 1 := ⟨k - 1, by omega⟩
  have hit : i < l.length := by omega
  have e1 : wrap64 ((i : Int) + 1) = ((i + 1 : Nat) : Int) := by rw [wrap64_id _ (by omega) (by omega)]; omega
  have hm := hf _ (List.getElem_mem hit)
  simp only [laws_eqNodeSS.l0]
  rewrite [if_pos (by omega), if_pos (by omega), if_pos (by omega), rdSS_at hit, eqNodes_val k _ (by omega) (by omega)]
  simp only [Option.bind_some]
  rewrite [if_pos trivial, e1]
  exact ih (i + 1) k (by omega) (by omega)
theorem eqSS_val (k : Nat) (l : List (List Nd)) (hl : l.length ≤ 1048576) (hf : ∀ x ∈ l, x.length ≤ 1048576) (hk : 3000000 < k) : laws_eqNodeSS.f k l l = some true := by
 unfold laws_eqNodeSS.f
 rewrite [if_pos rfl]
 exact eqSS_loop l hl hf l.length 0 k (by omega) (by omega)
theorem run_leaf (w v : Int) (t : List Nd) : ∀ st st', runK w v t st = some st' → ∀ x ∈ t, leafB w v x = true := by
 induction t with
 | nil => intro st st' _ x hx; cases hx
 | cons a t ih =>
  intro st st' h x hx
  rw [runK] at h
  obtain ⟨s1, h1, h2⟩ := Option.bind_eq_some_iff.mp h
  rcases List.mem_cons.1 hx with rfl | hx
  ·unfold stepK at h1
   split at h1
   ·cases h1
   ·split at h1
    ·rename_i hl; exact hl
    ·cases h1
  ·exact ih s1 st' h2 x hx
theorem kind_leaf {w v : Int} {t : List Nd} (h : kindT w v t > 0) : 1 ≤ v ∧ v ≤ 4 ∧ t.length ≤ 48 ∧ ∀ x ∈ t, x.f0 = 2 → x.f1 < v := by
 unfold kindT at h
 split at h
 ·rename_i hc
  refine ⟨hc.2.2.1, hc.2.2.2.1, hc.2.2.2.2.2, fun x hx h2 => ?_⟩
  cases hr : runK w v t [] with
  | none => rw [hr] at h; exact absurd h (by decide)
  | some st' =>
   have := run_leaf w v t [] st' hr x hx
   unfold leafB at this
   rw [if_neg (by omega), if_pos h2] at this
   exact of_decide_eq_true this
 ·exact absurd h (by decide)
theorem kind_len {w v : Int} {t : List Nd} (h : kindT w v t = 1) : t.length ≤ 48 := (kind_leaf (w := w) (v := v) (by rw [h]; decide)).2.2.1
/-- A node, or what stands for its variable. -/
def putN (bs : List (List Nd)) (x : Nd) : List Nd := if x.f0 = 2 then rd_L5 bs x.f1 else [x]
def putL (bs : List (List Nd)) (t : List Nd) : List Nd := t.flatMap (putN bs)
theorem putL_snoc (bs : List (List Nd)) (t : List Nd) (i : Nat) (h : i < t.length) : putL bs (t.take (i + 1)) = putL bs (t.take i) ++ putN bs t[i] := by
 unfold putL
 rw [List.take_add_one, List.getElem?_eq_getElem h, Option.toList_some, List.flatMap_append]
 simp
theorem putN_len (bs : List (List Nd)) (hb : ∀ x ∈ bs, x.length ≤ 48) (x : Nd) : (putN bs x).length ≤ 48 := by
 unfold putN
 split
 ·unfold rd_L5
  rw [List.getD_eq_getElem?_getD]
  cases hq : bs[x.f1.toNat]? with
  | none => simp
  | some y => exact hb y (List.mem_of_getElem? hq)
 ·simp
theorem putL_len (bs : List (List Nd)) (hb : ∀ x ∈ bs, x.length ≤ 48) (t : List Nd) : (putL bs t).length ≤ 48 * t.length := by
 unfold putL
 induction t with
 | nil => simp
 | cons a t ih =>
  rw [List.flatMap_cons, List.length_append, List.length_cons]
  have := putN_len bs hb a
  omega
theorem putL_ok (bs : List (List Nd)) (hb : ∀ x ∈ bs, okNodes x) (t : List Nd) (ht : okNodes t) : okNodes (putL bs t) := by
 intro y hy
 unfold putL at hy
 obtain ⟨x, hx, hyx⟩ := List.mem_flatMap.1 hy
 unfold putN at hyx
 split at hyx
 ·unfold rd_L5 at hyx
  rw [List.getD_eq_getElem?_getD] at hyx
  cases hq : bs[x.f1.toNat]? with
  | none => rw [hq] at hyx; cases hyx
  | some z => rw [hq] at hyx; exact hb z (List.mem_of_getElem? hq) y hyx
 ·obtain rfl := List.mem_singleton.1 hyx
  exact ht y hx
/-- A made term, or none. -/
def madeR (w v : Int) (t : List Nd) : List Nd × Bool := if kindT w v t > 0 then (t, true) else ([], false)
theorem made_spec (k : Nat) (w v : Int) (t : List Nd) (hok : okNodes t) (hk : 400 < k) : spec_l2Made.f k w v t = some (madeR w v t) := by
 unfold spec_l2Made.f madeR
 rewrite [goodTerm_spec k w v t hok hk]
 simp only [Option.bind_some, decide_eq_true_eq]
 by_cases h : kindT w v t > 0
 ·rw [if_pos h, if_pos h]
 ·rw [if_neg h, if_neg h]
theorem made_impl (k : Nat) (w v : Int) (t : List Nd) (hok : okNodes t) (hk : 400 < k) : impl_checkedTerm.f k w v t = some (madeR w v t) := by
 unfold impl_checkedTerm.f madeR
 rewrite [goodTerm_impl k w v t hok hk]
 simp only [Option.bind_some, decide_eq_true_eq]
 by_cases h : kindT w v t > 0
 ·rw [if_pos h, if_pos h]
 ·rw [if_neg h, if_neg h]
theorem put_fits (bs : List (List Nd)) (hb : ∀ x ∈ bs, x.length ≤ 48) (t : List Nd) (ht : t.length ≤ 48) (i : Nat) (y : List Nd) (hy : y.length ≤ 48) : (putL bs (t.take i)).length + y.length < 8796093022208 := by
 have h1 := putL_len bs hb (t.take i)
 have h2 : (t.take i).length ≤ 48 := by rw [List.length_take]; omega
 omega
theorem put_fits1 (bs : List (List Nd)) (hb : ∀ x ∈ bs, x.length ≤ 48) (t : List Nd) (ht : t.length ≤ 48) (i : Nat) : (putL bs (t.take i)).length < 8796093022208 := by
 have := put_fits bs hb t ht i [] (by simp)
 simpa using this
theorem put_spec (w v : Int) (bs : List (List Nd)) (t : List Nd) (hbo : ∀ x ∈ bs, okNodes x) (hto : okNodes t) (hb : ∀ x ∈ bs, x.length ≤ 48) (ht : t.length ≤ 48) (hx : ∀ x ∈ t, x.f0 = 2 → x.f1 < (bs.length : Int)) (d : Nat) : ∀ (i k : Nat), i + d = t.length → d + 401 < k →
  spec_PutAll.l1 k w v bs (putL bs (t.take i)) t (t.length : Int) (i : Int) = some (madeR w v (putL bs t)) := by
 induction d with
 | zero =>
  intro i k hi hk
  obtain ⟨k, rfl⟩ : ∃ m, k = m + 1 := ⟨k - 1, by omega⟩
  simp only [spec_PutAll.l1]
  rewrite [if_neg (by omega), List.take_of_length_le (by omega), made_spec k w v _ (putL_ok bs hbo t hto) (by omega)]
  rfl
 | succ d ih =>
  intro i k hi hk
  obtain ⟨k, rfl⟩ : ∃ m, k = m + 1 := ⟨k - 1, by omega⟩
  have hit : i < t.length := by omega
  have e1 : wrap64 ((i : Int) + 1) = ((i + 1 : Nat) : Int) := by rw [wrap64_id _ (by omega) (by omega)]; omega
  have h2 := ih (i + 1) k (by omega) (by omega)
  rw [putL_snoc bs t i hit] at h2
  simp only [spec_PutAll.l1]
  rewrite [if_pos (by omega), if_pos (by omega), if_pos (by omega), rd_at hit, e1]
  by_cases h0 : t[i].f0 = 2
  ·have hp : putN bs t[i] = rd_L5 bs t[i].f1 := if_pos h0
   have hn := putN_len bs hb t[i]
   rw [hp] at h2 hn
   rewrite [if_pos h0, if_pos (hto _ (List.getElem_mem hit)).1, if_pos (hx _ (List.getElem_mem hit) h0), if_pos (put_fits bs hb t ht i _ hn)]
   exact h2
  ·have hp : putN bs t[i] = [t[i]] := if_neg h0
   rw [hp] at h2
   rewrite [if_neg h0, if_pos (put_fits1 bs hb t ht i)]
   exact h2
theorem put_impl (w v : Int) (bs : List (List Nd)) (t : List Nd) (hbo : ∀ x ∈ bs, okNodes x) (hto : okNodes t) (hb : ∀ x ∈ bs, x.length ≤ 48) (ht : t.length ≤ 48) (hx : ∀ x ∈ t, x.f0 = 2 → x.f1 < (bs.length : Int)) (d : Nat) : ∀ (i k : Nat), i + d = t.length → d + 401 < k →
  impl_PutAll.l0 k bs (putL bs (t.take i)) t (t.length : Int) (i : Int) w v = some (madeR w v (putL bs t)) := by
 induction d with
 | zero =>
  intro i k hi hk
  obtain ⟨k, rfl⟩ : ∃ m, k = m + 1 := ⟨k - 1, by omega⟩
  simp only [impl_PutAll.l0]
  rewrite [if_neg (by omega), List.take_of_length_le (by omega), made_impl k w v _ (putL_ok bs hbo t hto) (by omega)]
  rfl
 | succ d ih =>
  intro i k hi hk
  obtain ⟨k, rfl⟩ : ∃ m, k = m + 1 := ⟨k - 1, by omega⟩
  have hit : i < t.length := by omega
  have e1 : wrap64 ((i : Int) + 1) = ((i + 1 : Nat) : Int) := by rw [wrap64_id _ (by omega) (by omega)]; omega
  have h2 := ih (i + 1) k (by omega) (by omega)
  rw [putL_snoc bs t i hit] at h2
  simp only [impl_PutAll.l0]
  rewrite [if_pos (by omega), if_pos (by omega), if_pos (by omega), rd_at hit, e1]
  by_cases h0 : t[i].f0 = 2
  ·have hp : putN bs t[i] = rd_L5 bs t[i].f1 := if_pos h0
   have hn := putN_len bs hb t[i]
   rw [hp] at h2 hn
   rewrite [if_pos h0, if_pos (hto _ (List.getElem_mem hit)).1, if_pos (hx _ (List.getElem_mem hit) h0), if_pos (put_fits bs hb t ht i _ hn)]
   exact h2
  ·have hp : putN bs t[i] = [t[i]] := if_neg h0
   rw [hp] at h2
   rewrite [if_neg h0, if_pos (put_fits1 bs hb t ht i)]
   exact h2
def numsB (w v : Int) (bs : List (List Nd)) : Bool := bs.all fun b => kindT w v b == 1
def putR (w v : Int) (t : List Nd) (bs : List (List Nd)) : List Nd × Bool := if kindT w v t > 0 ∧ (bs.length : Int) = v ∧ numsB w v bs = true then madeR w v (putL bs t) else ([], false)
theorem nums_mem {w v : Int} {bs : List (List Nd)} (h : numsB w v bs = true) : ∀ x ∈ bs, x.length ≤ 48 := fun x hx => kind_len (by
 unfold numsB at h
 exact beq_iff_eq.mp (List.all_eq_true.mp h x hx))
theorem nums_spec (w v : Int) (t : List Nd) (bs : List (List Nd)) (hbo : ∀ x ∈ bs, okNodes x) (hto : okNodes t) (hg : kindT w v t > 0) (hv : (bs.length : Int) = v) (d : Nat) : ∀ (i k : Nat), i + d = bs.length → d + 500 < k → numsB w v (bs.take i) = true →
  spec_PutAll.l0 k w v t bs bs (bs.length : Int) (i : Int) = some (if numsB w v bs = true then madeR w v (putL bs t) else ([], false)) := by
 have hkl := kind_leaf hg
 induction d with
 | zero =>
  intro i k hi hk hn
  obtain ⟨k, rfl⟩ : ∃ m, k = m + 1 := ⟨k - 1, by omega⟩
  rw [List.take_of_length_le (by omega)] at hn
  simp only [spec_PutAll.l0]
  rewrite [if_neg (by omega), if_pos hn]
  exact put_spec w v bs t hbo hto (nums_mem hn) hkl.2.2.1 (fun x hx h2 => by rw [hv]; exact hkl.2.2.2 x hx h2) t.length 0 k (by omega) (by omega)
 | succ d ih =>
  intro i k hi hk hn
  obtain ⟨k, rfl⟩ : ∃ m, k = m + 1 := ⟨k - 1, by omega⟩
  have hit : i < bs.length := by omega
  have e1 : wrap64 ((i : Int) + 1) = ((i + 1 : Nat) : Int) := by rw [wrap64_id _ (by omega) (by omega)]; omega
  simp only [spec_PutAll.l0]
  rewrite [if_pos (by omega), if_pos (by omega), if_pos (by omega), rdSS_at hit, l2Kind_val k w v _ (hbo _ (List.getElem_mem hit)) (by omega), e1]
  simp only [Option.bind_some]
  by_cases h1 : kindT w v bs[i] = 1
  ·rewrite [if_pos h1]
   refine ih (i + 1) k (by omega) (by omega) ?_
   unfold numsB at hn ⊢
   rw [List.take_add_one, List.getElem?_eq_getElem hit, Option.toList_some, List.all_append, hn]
   simp [h1]
  ·have h3 : ¬ numsB w v bs = true := by
    intro h
    unfold numsB at h
    exact h1 (beq_iff_eq.mp (List.all_eq_true.mp h _ (List.getElem_mem hit)))
   rewrite [if_neg h1, if_neg h3]; rfl
theorem putAll_spec (k : Nat) (w v : Int) (t : List Nd) (bs : List (List Nd)) (hbo : ∀ x ∈ bs, okNodes x) (hto : okNodes t) (hk : 1000 < k) : spec_PutAll.f k w v t bs = some (putR w v t bs) := by
 obtain ⟨k, rfl⟩ : ∃ m, k = m + 1 := ⟨k - 1, by omega⟩
 unfold spec_PutAll.f putR
 rewrite [goodTerm_spec _ w v t hto (by omega)]
 simp only [Option.bind_some, decide_eq_true_eq, spec_PutAll.j0]
 by_cases hg : kindT w v t > 0
 case neg =>
  rewrite [if_neg hg]
  (first | rewrite [if_pos rfl] | rewrite [if_pos trivial])
  rw [if_neg (fun h => hg h.1)]
 rewrite [if_pos hg]
 by_cases hv : (bs.length : Int) = v
 case neg =>
  have : ((bs.length : Int) != v) = true := by simp [hv]
  rewrite [if_pos this, if_neg (fun h => hv h.2.1)]; rfl
 have hbv : ((bs.length : Int) != v) = false := by simp [hv]
 have hkl := kind_leaf hg
 rewrite [if_neg (by rw [hbv]; decide)]
 have h := nums_spec w v t bs hbo hto hg hv bs.length 0 k (by omega) (by omega) rfl
 rw [Int.natCast_zero] at h
 rewrite [h]
 by_cases hn : numsB w v bs = true
 ·rw [if_pos hn, if_pos ⟨hg, hv, hn⟩]
 ·rw [if_neg hn, if_neg (fun h => hn h.2.2)]
theorem any_nums (k : Nat) (w v : Int) (bs : List (List Nd)) (hbo : ∀ x ∈ bs, okNodes x) (hk : 400 < k) : impl_PutAll_any.f k bs w v = some (!numsB w v bs) := by
 unfold impl_PutAll_any.f numsB
 induction bs with
 | nil => rfl
 | cons x t ih =>
  have hp : impl_PutAll_any.p k w v x = some (!(kindT w v x == 1)) := by unfold impl_PutAll_any.p; rw [isTermOf_val k w v x 1 (hbo x List.mem_cons_self) (by decide) hk]; rfl
  have h2 := ih (fun y hy => hbo y (List.mem_cons_of_mem _ hy))
  unfold impl_PutAll_any.any
  rewrite [hp]
  simp only [Option.bind_some]
  rewrite [List.all_cons]
  cases hb : (kindT w v x == 1) with
  | false => rfl
  | true => rewrite [if_neg (by decide), h2]; rfl
theorem putAll_impl (k : Nat) (w v : Int) (t : List Nd) (bs : List (List Nd)) (hbo : ∀ x ∈ bs, okNodes x) (hto : okNodes t) (hk : 1000 < k) : impl_PutAll.f k w v t bs = some (putR w v t bs) := by
 obtain ⟨k, rfl⟩ : ∃ m, k = m + 1 := ⟨k - 1, by omega⟩
 unfold impl_PutAll.f putR
 rewrite [goodTerm_impl _ w v t hto (by omega)]
 simp only [Option.bind_some, decide_eq_true_eq, impl_PutAll.j0]
 by_cases hg : kindT w v t > 0
 case neg =>
  rewrite [if_neg hg]
  (first | rewrite [if_pos rfl] | rewrite [if_pos trivial])
  rw [if_neg (fun h => hg h.1)]
 rewrite [if_pos hg]
 by_cases hv : (bs.length : Int) = v
 case neg =>
  rewrite [if_neg hv]
  (first | rewrite [if_pos rfl] | rewrite [if_pos trivial])
  rw [if_neg (fun h => hv h.2.1)]
 have hkl := kind_leaf hg
 rewrite [if_pos hv, any_nums _ w v bs hbo (by omega)]
 simp only [Option.bind_some]
 by_cases hn : numsB w v bs = true
 case neg =>
  have hn2 : (!numsB w v bs) = true := by rw [Bool.eq_false_iff.mpr hn]; rfl
  rewrite [if_pos hn2, if_neg (fun h => hn h.2.2)]
  rfl
 have hn2 : ¬ (!numsB w v bs) = true := by rw [hn]; decide
 rewrite [if_neg hn2, if_pos ⟨hg, hv, hn⟩]
 have h := put_impl w v bs t hbo hto (nums_mem hn) hkl.2.2.1 (fun x hx h2 => by rw [hv]; exact hkl.2.2.2 x hx h2) t.length 0 k (by omega) (by omega)
 exact h
theorem putR_len (w v : Int) (t : List Nd) (bs : List (List Nd)) : (putR w v t bs).1.length ≤ 48 := by
 unfold putR
 split
 ·unfold madeR
  split
  ·rename_i h; exact (kind_leaf h).2.2.1
  ·simp
 ·simp
theorem ssCnt_bound (l : List (List Nd)) (hf : ∀ x ∈ l, x.length ≤ 1048576) : ssCnt l ≤ l.length * 2097152 := by
 unfold ssCnt
 induction l with
 | nil => simp
 | cons a t ih =>
  have h1 := hf a List.mem_cons_self
  have h2 := ih (fun x hx => hf x (List.mem_cons_of_mem _ hx))
  rw [List.map_cons, List.sum_cons, List.length_cons, Nat.succ_mul]
  omega
theorem markSS_val (a : Int) (l : List (List Nd)) (ha : 0 ≤ a) (ha2 : a ≤ 3000000) (hl : l.length ≤ 1048576) (hf : ∀ x ∈ l, x.length ≤ 1048576) : ∃ r : Int, laws_markNodeSS.f l a = some r ∧ 0 ≤ r := by
 have h1 := ssCnt_bound l hf
 have h2 : l.length * 2097152 ≤ 1048576 * 2097152 := Nat.mul_le_mul_right _ hl
 unfold laws_markNodeSS.f
 refine ⟨a + (ssCnt l : Int), ?_, by omega⟩
 rw [if_pos]
 exact ⟨ha, by omega, by omega⟩
theorem FnExactPutAll : laws_FnExactPutAll.Pure := by
 intro w v l ls _ _ hl hs
 have hlen := hl.1
 have hsl := hs.1
 simp only [maxLen] at hlen hsl
 have hsw : ∀ x ∈ ls, x.length ≤ 9223372036854775807 := fun x hx => by have := (hs.2 x hx).1; simpa only [maxLen] using this
 obtain ⟨k, hk⟩ : ∃ k : Nat, 4000005 ≤ k := ⟨4000005, Nat.le_refl _⟩
 refine ⟨k + 3, ?_⟩
 unfold laws_FnExactPutAll.f
 rewrite [sz_val l hlen]
 simp only [Option.bind_some]
 by_cases hbig : 1048576 < l.length
 ·rw [if_pos hbig, if_pos (by decide)]
 ·rewrite [if_neg hbig, if_neg (by omega), szRR_val ls hsw hsl _ (by omega) (by omega) (k + 3) (by omega)]
  simp only [Option.bind_some]
  by_cases hb : szRR ls (1048576 - (l.length : Int)) < 0
  ·rw [if_pos hb]
  ·have hf := szRR_ok (by omega) hb
   have hok := conv_ok l hl.2
   have hbo : ∀ x ∈ convS ls, okNodes x := by
    intro x hx
    obtain ⟨y, hy, rfl⟩ := List.mem_map.1 hx
    exact conv_ok y (hs.2 y hy).2
   have hcl : (convS ls).length ≤ 1048576 := by rw [convS_len]; exact hf.1
   have hcf : ∀ x ∈ convS ls, x.length ≤ 1048576 := by
    intro x hx
    obtain ⟨y, hy, rfl⟩ := List.mem_map.1 hx
    rw [List.length_map]
    exact hf.2 y hy
   have k3 : 3000000 < k + 3 := by omega
   have k2 : 3000000 < k + 2 := by omega
   have k1 : 3000000 < k + 1 := by omega
   have hml : (l.map conv).length = l.length := by simp
   have hr := putR_len w v (l.map conv) (convS ls)
   have hS := fun k hk => putAll_spec k w v (l.map conv) (convS ls) hbo hok hk
   have hI := fun k hk => putAll_impl k w v (l.map conv) (convS ls) hbo hok hk
   obtain ⟨r2, b2, hres⟩ : ∃ r2 b2, putR w v (l.map conv) (convS ls) = (r2, b2) := ⟨_, _, rfl⟩
   simp only [hres] at hS hI hr
   have hbb : (b2 != b2) = false := by simp
   obtain ⟨mr, hmr, hm0⟩ := markSS_val (1 + 2 * ((l.map conv).length : Int)) (convS ls) (by omega) (by omega) hcl hcf
   rewrite [if_neg hb, toNodes_val (k + 3) l (by omega) (by omega)]
   simp only [Option.bind_some]
   rewrite [toSS_val (k + 3) ls hf.1 hf.2 k3]
   simp only [Option.bind_some]
   rewrite [hS (k + 3) (by omega), hI (k + 3) (by omega)]
   simp only [Option.bind_some]
   rewrite [eqNodes_val (k + 3) r2 (by omega) (by omega)]
   simp only [Option.bind_some, if_true, hbb, laws_FnExactPutAll.j0, Bool.false_eq_true, if_false]
   have q1 := toNodes_val (k + 2) l (by omega) (by omega)
   have q2 := eqNodes_val (k + 2) (l.map conv) (by omega) (by omega)
   have q3 := toSS_val (k + 2) ls hf.1 hf.2 k2
   have q4 := eqSS_val (k + 2) (convS ls) hcl hcf k2
   have q5 := markNode_val (k + 2) 1 (by omega) (by omega) (l.map conv) (by omega) (by omega)
   have q6 := eqNodes_val (k + 2) r2 (by omega) (by omega)
   rewrite [q1]
   simp only [Option.bind_some]
   rewrite [q2]
   simp only [Option.bind_some]
   rewrite [if_pos trivial, q3]
   simp only [Option.bind_some]
   have hmr2 : laws_markNodeSS.f (convS ls) (1 + 2 * ((l.map conv).length : Int), mkNode 1 (l.map conv).length).1 = some mr := hmr
   rw [q4, Option.bind_some, if_pos rfl, q5, Option.bind_some, hmr2, Option.bind_some, if_neg (show ¬ mr < 0 by omega), q6, Option.bind_some, if_pos rfl]
   simp only [laws_FnExactPutAll.j1, Bool.false_eq_true, if_false]
   have p1 := markNode_val (k + 1) 1 (by omega) (by omega) r2 (by omega) (by omega)
   have p2 := heldNode_val (k + 1) 1 (by omega) (by omega) r2.length (by omega) (by omega)
   have p3 := toNodes_val (k + 1) l (by omega) (by omega)
   have p4 := toSS_val (k + 1) ls hf.1 hf.2 k1
   have p5 := eqNodes_val (k + 1) r2 (by omega) (by omega)
   rewrite [p1]
   simp only [Option.bind_some]
   rewrite [p2]
   simp only [Option.bind_some]
   rewrite [if_neg (by omega), if_pos trivial, p3]
   simp only [Option.bind_some]
   rewrite [p4]
   simp only [Option.bind_some]
   rewrite [hI (k + 1) (by omega)]
   simp only [Option.bind_some]
   rewrite [p5]
   simp only [Option.bind_some]
   rewrite [if_pos trivial]
   simp only [laws_FnExactPutAll.j2, hbb, Bool.false_eq_true, if_false]
   rewrite [heldNode_val k 1 (by omega) (by omega) r2.length (by omega) (by omega)]
   simp only [Option.bind_some]
   rewrite [if_neg (by omega)]
   rfl
end Go.Proofs.Ytckdgmbmjfhodaa.Pure
