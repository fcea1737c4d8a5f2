/- Bits of 64-bit words as the model tells them: and, or, xor, shifts and masks as remainders and powers of two. No condition. The law on SolveTerm: the circuit of a condition has one wire out, its clauses are good, both searches and both readings of the state agree. Conditions: those of the law's own Pure. -/
import Derived.Test.YtgdmdaalmoioeaaGreatWMore
import Derived.Laws.BitsLemmas
import Derived.Test.YtgdmdaalmoioeaaGreatXO
import Derived.Test.YtgdmdaalmoioeaaGreatX1
import Derived.Test.YtgdmdaalmoioeaaGreatX20
import Derived.Test.YtgdmdaalmoioeaaGreatX24
import Derived.Test.YtgdmdaalmoioeaaGreatX28
import Derived.Test.YtgdmdaalmoioeaaGreatX51
import Derived.Test.YtgdmdaalmoioeaaGreatX57
import Derived.Test.YtgdmdaalmoioeaaGreatX66
import Derived.Test.YtgdmdaalmoioeaaGreatX71
import Derived.Test.YtgdmdaalmoioeaaGreatX75
namespace Go.Proofs.YtgdmdaalmoioeaaGreat.Bits
open Go.RowKit Go.Proofs.YtgdmdaalmoioeaaGreatW.PrintWords
theorem wrap_u64 (n : Int) : IntKind.u64.wrap n = n % 18446744073709551616 := by simp [IntKind.wrap, IntKind.bits, IntKind.signed]
theorem wraps_u64 (n : Int) (h₀ : 0 ≤ n) (h₁ : n < 2 ^ 64) : IntKind.u64.wrap n = n := by rw [wrap_u64]; omega
theorem u64_id (n : Int) (h₀ : 0 ≤ n) (h₁ : n < 18446744073709551616) : IntKind.u64.wrap n = n := by rw [wrap_u64]; omega
theorem and_u64 (a b : Nat) (ha : a < 2 ^ 64) (hb : b < 2 ^ 64) : Go.bits .and .u64 a b = ((a &&& b : Nat) : Int) := (bits_nat .u64 64 (by decide) wraps_u64 a b ha hb).1
theorem or_u64 (a b : Nat) (ha : a < 2 ^ 64) (hb : b < 2 ^ 64) : Go.bits .or .u64 a b = ((a ||| b : Nat) : Int) := (bits_nat .u64 64 (by decide) wraps_u64 a b ha hb).2
theorem wf_i64 {a : Int} (h : (Lit.int .i64 a).wf = true) : -9223372036854775808 ≤ a ∧ a ≤ 9223372036854775807 := by
 simpa [Lit.wf, IntKind.min, IntKind.max, IntKind.signed, IntKind.bits] using h
theorem wf_u64 {a : Int} (h : (Lit.int .u64 a).wf = true) : 0 ≤ a ∧ a < 18446744073709551616 := by
 have : 0 ≤ a ∧ a ≤ 18446744073709551615 := by
  simpa [Lit.wf, IntKind.min, IntKind.max, IntKind.signed, IntKind.bits] using h
 omega
theorem wrap64_id (n : Int) (h0 : -9223372036854775808 ≤ n) (h1 : n ≤ 9223372036854775807) : wrap64 n = n := by unfold wrap64; omega
theorem pow_pos (n : Nat) : (0 : Int) < 2 ^ n := Int.pow_pos (by decide)
theorem shl_one (k : Nat) (h : k < 64) : shl .u64 1 (k : Int) = ((2 ^ k : Nat) : Int) := by
 have hb : IntKind.u64.bits = 64 := rfl;unfold shl;rw [hb, Int.toNat_natCast, Nat.min_eq_left (by omega), Int.one_mul, wraps_u64]
 ·simp
 ·exact Int.le_of_lt (Int.pow_pos (by decide))
 ·exact_mod_cast Nat.pow_lt_pow_right (by decide) h
theorem mod_or_and (a k : Nat) : (a % 2 ^ k) ||| (a &&& 2 ^ k) = a % 2 ^ (k + 1) := by
 apply Nat.eq_of_testBit_eq;intro i;simp only [Nat.testBit_or, Nat.testBit_mod_two_pow, Nat.testBit_and, Nat.testBit_two_pow];by_cases h : i < k
 ·have h2 : ¬ k = i := by omega
  have h3 : i < k + 1 := by omega
  simp [h, h2, h3]
 ·by_cases h2 : k = i
  ·subst h2; simp
  ·have h3 : ¬ i < k + 1 := (by omega);simp [h, h2, h3]
theorem cut_step (a : Int) (k : Nat) (h0 : 0 ≤ a) (ha : a < 18446744073709551616) (hk : k < 64) :
  Go.bits .or .u64 (a % 2 ^ k) (Go.bits .and .u64 a (shl .u64 1 (k : Int))) = a % 2 ^ (k + 1) := by
 obtain ⟨n, rfl⟩ := Int.eq_ofNat_of_zero_le h0;have hn : n < 2 ^ 64 := by omega
 have e1 : ((n : Int) % 2 ^ k) = ((n % 2 ^ k : Nat) : Int) := by simp
 have e2 : ((n : Int) % 2 ^ (k + 1)) = ((n % 2 ^ (k + 1) : Nat) : Int) := by simp
 rw [e1, e2, shl_one k hk, and_u64 n _ hn (Nat.pow_lt_pow_right (by decide) hk), or_u64 _ _ (Nat.lt_of_le_of_lt (Nat.mod_le _ _) hn) (Nat.and_lt_two_pow _ (Nat.pow_lt_pow_right (by decide) hk)), mod_or_and]
theorem mask_val (w : Int) (h0 : 1 ≤ w) (h1 : w ≤ 64) : shr .u64 18446744073709551615 (64 - w) = 2 ^ w.toNat - 1 := by
 obtain ⟨n, rfl⟩ := Int.eq_ofNat_of_zero_le (show 0 ≤ w by omega);have hb : IntKind.u64.bits = 64 := rfl;unfold shr;rw [hb, Int.toNat_natCast, Nat.min_eq_left (by omega)];have e : (64 - (n : Int)).toNat = 64 - n := by omega
 rw [e];have hn : n ≤ 64 := by omega
 have hp : 0 < n := by omega
 have h2 : 2 ^ (64 - n) * 2 ^ n = 2 ^ 64 := by rw [← Nat.pow_add]; congr 1; omega
 have hx : 0 < 2 ^ (64 - n) := Nat.two_pow_pos _;have hy : 0 < 2 ^ n := Nat.two_pow_pos _;have h3 : (18446744073709551615 : Nat) / 2 ^ (64 - n) = 2 ^ n - 1 := by
  rw [Nat.div_eq_iff hx];have h4 : (2 ^ n - 1) * 2 ^ (64 - n) = 2 ^ 64 - 2 ^ (64 - n) := by rw [Nat.sub_mul, Nat.mul_comm, h2]; omega
  have h5 : 2 ^ (64 - n) ≤ 2 ^ 64 := Nat.pow_le_pow_right (by decide) (by omega);rw [h4];omega
 have h6 : (18446744073709551615 : Int) / 2 ^ (64 - n) = (((18446744073709551615 : Nat) / 2 ^ (64 - n) : Nat) : Int) := by simp
 rw [h6, h3, Int.natCast_sub hy];simp
def word (w a : Int) : Prop := 1 ≤ w ∧ w ≤ 64 ∧ 0 ≤ a ∧ a < 2 ^ w.toNat
instance (w a : Int) : Decidable (word w a) := by unfold word; infer_instance
def sgn (w a : Int) : Int := if a < 2 ^ (w - 1).toNat then a else a - 2 ^ w.toNat
end Go.Proofs.YtgdmdaalmoioeaaGreat.Bits
namespace Go.Proofs.YtgdmdaalmoioeaaGreat.Pure
open Go.RowKit Go.Proofs.YtgdmdaalmoioeaaGreat.X Go.Proofs.YtgdmdaalmoioeaaGreatW.PrintWords Go.Proofs.YtgdmdaalmoioeaaGreatW.PrintLast Go.Proofs.YtgdmdaalmoioeaaGreatW.PrintMore Go.Proofs.YtgdmdaalmoioeaaGreat.Bits
theorem set_mid {α : Type} (a b : List α) (x y : α) (n : Nat) (h : n = a.length) : (a ++ x :: b).set n y = a ++ y :: b := by
 subst h; simp
theorem rdInt_at {t : List Int} {i : Nat} (h : i < t.length) : rd t (i : Int) = t[i] := by
 unfold rd;rw [Int.toNat_natCast, List.getD_eq_getElem?_getD, List.getElem?_eq_getElem h]; rfl
theorem l1In_val (a b c : Int) : spec_l1In.f a b c = some (decide (b ≤ a ∧ a ≤ c)) := by
 unfold spec_l1In.f;by_cases h : a ≥ b
 ·rw [if_pos h]; simp [show b ≤ a from h]
 ·rw [if_neg h]; simp [show ¬ b ≤ a from h]
theorem l1Wide_val (a : Int) : spec_l1Wide.f a = some (decide (1 ≤ a ∧ a ≤ 64)) := by
 unfold spec_l1Wide.f;rw [l1In_val]; rfl
theorem isWide_val (a : Int) : impl_isWide.f a = some (decide (1 ≤ a ∧ a ≤ 64)) := by
 unfold impl_isWide.f;by_cases h : a ≥ 1
 ·rw [if_pos h]; simp [show 1 ≤ a from h]
 ·rw [if_neg h]; simp [show ¬ 1 ≤ a from h]
theorem mask_f (w : Int) (h0 : 1 ≤ w) (h1 : w ≤ 64) : impl_mask.f w = some (2 ^ w.toNat - 1) := by
 unfold impl_mask.f;have e : wrap64 (64 - w) = 64 - w := wrap64_id _ (by omega) (by omega);rw [e, if_pos (by omega), mask_val w h0 h1]
theorem cut_loop (w a : Int) (h0 : 0 ≤ a) (ha : a < 18446744073709551616) (hw : w ≤ 64) (d : Nat) :
  ∀ (k i : Nat), (i : Int) + d = w → d < k → spec_l1Cut.l0 k w a (a % 2 ^ i) (i : Int) = some (a % 2 ^ w.toNat) := by
 induction d with
 | zero =>
  intro k i hi hk;obtain ⟨k, rfl⟩ : ∃ m, k = m + 1 := ⟨k - 1, by omega⟩;simp only [spec_l1Cut.l0];rw [if_neg (by omega), show w.toNat = i by omega]
 | succ d ih =>
  intro k i hi hk;obtain ⟨k, rfl⟩ : ∃ m, k = m + 1 := ⟨k - 1, by omega⟩;simp only [spec_l1Cut.l0];rw [if_pos (by omega), u64_id (i : Int) (by omega) (by omega), if_pos (by omega), cut_step a i h0 ha (by omega)];have e : wrap64 ((i : Int) + 1) = ((i + 1 : Nat) : Int) := by rw [wrap64_id _ (by omega) (by omega)]; omega
  rw [e];exact ih k (i + 1) (by omega) (by omega)
theorem cut_val (k : Nat) (w a : Int) (hk : 65 < k) (hw0 : 0 ≤ w) (hw : w ≤ 64) (h0 : 0 ≤ a) (ha : a < 18446744073709551616) :
  spec_l1Cut.f k w a = some (a % 2 ^ w.toNat) := by
 have := cut_loop w a h0 ha hw w.toNat k 0 (by omega) (by omega);unfold spec_l1Cut.f;simpa using this
theorem cut_word (w a : Int) (h : word w a) : a % 2 ^ w.toNat = a := Int.emod_eq_of_lt h.2.2.1 h.2.2.2
theorem goodWord_spec (k : Nat) (w a : Int) (hk : 65 < k) (h0 : 0 ≤ a) (ha : a < 18446744073709551616) : spec_GoodWord.f k w a = some (decide (word w a)) := by
 unfold spec_GoodWord.f;rw [l1Wide_val];simp only [Option.bind_some];by_cases h : 1 ≤ w ∧ w ≤ 64
 ·rw [if_pos (by simpa using h), cut_val k w a hk (by omega) h.2 h0 ha];simp only [Option.bind_some, Option.some.injEq];rw [Bool.eq_iff_iff];simp only [beq_iff_eq, decide_eq_true_eq];constructor
  ·intro e;refine ⟨h.1, h.2, h0, ?_⟩;rw [← e]; exact Int.emod_lt_of_pos _ (pow_pos _)
  ·exact cut_word w a
 ·rw [if_neg (by simpa using h)];have : ¬ word w a := fun e => h ⟨e.1, e.2.1⟩;simp [this]
theorem goodWord_impl (w a : Int) (h0 : 0 ≤ a) : impl_GoodWord.f w a = some (decide (word w a)) := by
 unfold impl_GoodWord.f;rw [isWide_val];simp only [Option.bind_some];by_cases h : 1 ≤ w ∧ w ≤ 64
 ·rw [if_pos (by simpa using h), mask_f w h.1 h.2];simp only [Option.bind_some, Option.some.injEq];rw [Bool.eq_iff_iff];simp only [decide_eq_true_eq];constructor
  ·intro e; exact ⟨h.1, h.2, h0, by omega⟩
  ·intro e; have := e.2.2.2; omega
 ·rw [if_neg (by simpa using h)];have : ¬ word w a := fun e => h ⟨e.1, e.2.1⟩;simp [this]
abbrev Nd := S53
def need (op : Int) : Int × Int × Int :=
 if op = 1 ∨ op = 2 then (0, 1, 1) else if op = 20 then (0, 2, 2) else if op = 13 then (1, 1, 1) else if op = 19 then (1, 2, 2)
 else if 3 ≤ op ∧ op ≤ 12 then (2, 1, 1) else if 14 ≤ op ∧ op ≤ 16 then (2, 1, 2) else if op = 17 ∨ op = 18 then (2, 2, 2) else (0, 0, 0)
theorem isVars_val (a : Int) : impl_isVars.f a = some (decide (1 ≤ a ∧ a ≤ 4)) := by
 unfold impl_isVars.f;by_cases h : a ≥ 1
 ·rw [if_pos h]; simp [show 1 ≤ a from h]
 ·rw [if_neg h]; simp [show ¬ 1 ≤ a from h]
theorem need_spec (k : Nat) (op : Int) (hk : 3 < k) : spec_l2Need.f k op = some (need op) := by
 obtain ⟨k, rfl⟩ : ∃ m, k = m + 1 := ⟨k - 1, by omega⟩;unfold spec_l2Need.f need;by_cases h1 : op = 1
 ·simp [h1, spec_l2Need.j0]
 ·by_cases h2 : op = 2
  ·simp [h2, spec_l2Need.j0]
  ·have hb : (op == 2) = false := (by simpa using h2);rw [if_neg h1, hb, if_neg (by omega)];simp only [spec_l2Need.j0];rw [if_neg (by decide)];by_cases h3 : op = 20
   ·simp [h3]
   ·rw [if_neg h3, if_neg h3];by_cases h4 : op = 13
    ·simp [h4]
    ·rw [if_neg h4, if_neg h4];by_cases h5 : op = 19
     ·simp [h5]
     ·rw [if_neg h5, if_neg h5, l1In_val, l1In_val];simp only [Option.bind_some, decide_eq_true_eq];by_cases h6 : 3 ≤ op ∧ op ≤ 12
      ·rw [if_pos h6, if_pos h6]
      ·rw [if_neg h6, if_neg h6];by_cases h7 : 14 ≤ op ∧ op ≤ 16
       ·rw [if_pos h7, if_pos h7]
       ·rw [if_neg h7, if_neg h7];by_cases h8 : op = 17
        ·simp [h8]
        ·by_cases h9 : op = 18
         ·simp [h9]
         ·rw [if_neg h8, if_neg h9, if_neg (by omega)]
def needI (op : Int) : Int × Int × Int :=
 if op = 1 ∨ op = 2 then (0, 0, 1) else if op = 20 then (0, 0, 2) else if op = 13 then (1, 1, 1) else if op = 19 then (1, 2, 2)
 else if 3 ≤ op ∧ op ≤ 12 then (2, 1, 1) else if 14 ≤ op ∧ op ≤ 16 then (2, 1, 2) else if op = 17 ∨ op = 18 then (2, 2, 2) else (0, 0, 0)
theorem needI_eq (op : Int) : (needI op).1 = (need op).1 ∧ (needI op).2.2 = (need op).2.2 ∧ ((need op).1 ≠ 0 → (needI op).2.1 = (need op).2.1) := by
 unfold needI need; (repeat' split) <;> simp
theorem need_impl (k : Nat) (op : Int) (hk : 3 < k) : impl_operandsOf.f k op = some (needI op) := by
 obtain ⟨k, rfl⟩ : ∃ m, k = m + 3 := ⟨k - 3, by omega⟩;unfold impl_operandsOf.f needI;by_cases h1 : op = 1
 ·simp [h1, impl_operandsOf.j0]
 ·by_cases h2 : op = 2
  ·simp [h2, impl_operandsOf.j0]
  ·have hb : (op == 2) = false := (by simpa using h2);rw [if_neg h1, hb, if_neg (by omega)];simp only [impl_operandsOf.j0];rw [if_neg (by decide)];by_cases h3 : op = 20
   ·simp [h3]
   ·rw [if_neg h3, if_neg h3];by_cases h4 : op = 13
    ·simp [h4]
    ·rw [if_neg h4, if_neg h4];by_cases h5 : op = 19
     ·simp [h5]
     ·rw [if_neg h5, if_neg h5];have e1 : (if op ≥ 3 then impl_operandsOf.j1 (k + 2) op (decide (op ≤ 12)) else impl_operandsOf.j1 (k + 2) op false) = impl_operandsOf.j1 (k + 2) op (decide (3 ≤ op ∧ op ≤ 12)) := by
       by_cases h : op ≥ 3
       ·rw [if_pos h]; congr 1; simp [show 3 ≤ op from h]
       ·rw [if_neg h]; congr 1; simp [show ¬ 3 ≤ op from h]
      rw [e1];simp only [impl_operandsOf.j1, decide_eq_true_eq];by_cases h6 : 3 ≤ op ∧ op ≤ 12
      ·rw [if_pos h6, if_pos h6]
      ·rw [if_neg h6, if_neg h6];have e2 : (if op ≥ 14 then impl_operandsOf.j2 (k + 1) op (decide (op ≤ 16)) else impl_operandsOf.j2 (k + 1) op false) = impl_operandsOf.j2 (k + 1) op (decide (14 ≤ op ∧ op ≤ 16)) := by
        by_cases h : op ≥ 14
        ·rw [if_pos h]; congr 1; simp [show 14 ≤ op from h]
        ·rw [if_neg h]; congr 1; simp [show ¬ 14 ≤ op from h]
       rw [e2];simp only [impl_operandsOf.j2, decide_eq_true_eq];by_cases h7 : 14 ≤ op ∧ op ≤ 16
       ·rw [if_pos h7, if_pos h7]
       ·rw [if_neg h7, if_neg h7];by_cases h8 : op = 17
        ·simp [h8]
        ·by_cases h9 : op = 18
         ·simp [h9]
         ·rw [if_neg h8, if_neg h9, if_neg (by omega)]
theorem need_range (op : Int) : 0 ≤ (need op).1 ∧ (need op).1 ≤ 2 ∧ 0 ≤ (need op).2.2 ∧ (need op).2.2 ≤ 2 ∧ 0 ≤ (need op).2.1 ∧ (need op).2.1 ≤ 2 := by
 unfold need; (repeat' split) <;> decide
theorem need_is (op : Int) : ∃ m p r, need op = (m, p, r) ∧ 0 ≤ m ∧ m ≤ 2 ∧ 0 ≤ r ∧ r ≤ 2 ∧ 0 ≤ p ∧ p ≤ 2 :=
 ⟨(need op).1, (need op).2.1, (need op).2.2, rfl, need_range op⟩
attribute [irreducible] need needI
def leafB (w v : Int) (x : Nd) : Bool :=
 if x.f0 = 1 then decide (word w x.f1) else if x.f0 = 2 then decide (x.f1 < v) else if x.f0 = 20 then decide (x.f1 ≤ 1) else decide (x.f1 = 0)
theorem leaf_spec (k : Nat) (w v a b : Int) (hk : 65 < k) (hv0 : 0 ≤ v) (hv : v ≤ 4) (h0 : 0 ≤ b) (h1 : b < 18446744073709551616) : spec_l2N.f k w v a b = some (leafB w v ⟨a, b⟩) := by
 unfold spec_l2N.f leafB;by_cases h2 : a = 1
 ·rw [if_pos h2, if_pos h2, goodWord_spec k w b hk h0 h1]; rfl
 ·rw [if_neg h2, if_neg h2, u64_id v hv0 (by omega)];by_cases h3 : a = 2
  ·rw [if_pos h3, if_pos h3]
  ·rw [if_neg h3, if_neg h3];by_cases h4 : a = 20
   ·rw [if_pos h4, if_pos h4]; congr 1; rw [Bool.eq_iff_iff]; simp only [decide_eq_true_eq]; omega
   ·rw [if_neg h4, if_neg h4]; first | done | rfl | (congr 1; first | done | rfl | (rw [Bool.eq_iff_iff]; simp))
theorem leaf_impl (w v a b : Int) (hv0 : 0 ≤ v) (hv : v ≤ 4) (h0 : 0 ≤ b) : impl_isLeafRight.f w v a b = some (leafB w v ⟨a, b⟩) := by
 unfold impl_isLeafRight.f leafB;by_cases h2 : a = 1
 ·rw [if_pos h2, if_pos h2, goodWord_impl w b h0]; rfl
 ·rw [if_neg h2, if_neg h2, u64_id v hv0 (by omega)];by_cases h3 : a = 2
  ·rw [if_pos h3, if_pos h3]
  ·rw [if_neg h3, if_neg h3];by_cases h4 : a = 20
   ·rw [if_pos h4, if_pos h4]
   ·rw [if_neg h4, if_neg h4]; first | done | rfl | (congr 1; first | done | rfl | (rw [Bool.eq_iff_iff]; simp))
def stepK (w v : Int) (st : List Int) (x : Nd) : Option (List Int) :=
 if (need x.f0).2.2 = 0 then none else if leafB w v x = true then
  if (st.length : Int) < (need x.f0).1 then none else if (st.take (need x.f0).1.toNat).all (fun y => y == (need x.f0).2.1) = true then some ((need x.f0).2.2 :: st.drop (need x.f0).1.toNat) else none
 else none
def runK (w v : Int) : List Nd → List Int → Option (List Int)
 | [], st => some st
 | x :: t, st => (stepK w v st x).bind (runK w v t)
theorem rd_last (st : List Int) (a : Int) : rd ((a :: st).reverse) (((a :: st).reverse.length : Int) - 1) = a := by
 have : (((a :: st).reverse.length : Int) - 1).toNat = st.length := by simp
 unfold rd;rw [this];simp [List.getD]
theorem take_last (st : List Int) (a : Int) (n : Nat) (h : n = st.length) : (a :: st).reverse.take n = st.reverse := by
 subst h;rw [List.reverse_cons, List.take_left' (by simp)]
theorem spec_pop (w v part own : Int) (t : List Nd) (n i : Int) (m : Nat) : ∀ (st : List Int) (k : Nat), m ≤ st.length → st.length ≤ 48 → (m : Int) ≤ 2 → m + 1 < k →
  ∃ k', k ≤ k' + m + 1 ∧ spec_l2Kind.l1 k w v st.reverse m part own t n i =
   if (st.take m).all (fun y => y == part) = true then spec_l2Kind.l0 k' w v ((st.drop m).reverse ++ [own]) t n (wrap64 (i + 1)) else some 0 := by
 induction m with
 | zero =>
  intro st k hm hl h2 hk;obtain ⟨k, rfl⟩ : ∃ m, k = m + 1 := ⟨k - 1, by omega⟩;refine ⟨k, by omega, ?_⟩;simp only [spec_l2Kind.l1];rewrite [if_neg (by omega), if_pos (by simp; omega)];simp
 | succ m ih =>
  intro st k hm hl h2 hk;obtain ⟨k, rfl⟩ : ∃ m, k = m + 1 := ⟨k - 1, by omega⟩;obtain ⟨a, st, rfl⟩ : ∃ a s, st = a :: s := by cases st with | nil => simp at hm | cons a s => exact ⟨a, s, rfl⟩
  have hlen : ((a :: st).reverse.length : Int) = (st.length : Int) + 1 := by simp
  simp only [List.length_cons] at hm hl;have e1 : wrap64 (((a :: st).reverse.length : Int) - 1) = ((a :: st).reverse.length : Int) - 1 := wrap64_id _ (by omega) (by omega);have e2 : wrap64 (((m + 1 : Nat) : Int) - 1) = (m : Int) := by rw [wrap64_id _ (by omega) (by omega)]; omega
  have e3 : (a :: st).reverse.take (((a :: st).reverse.length : Int) - 1).toNat = st.reverse := take_last st a _ (by omega);obtain ⟨k', hk', he⟩ := ih st k (by omega) (by omega) (by omega) (by omega);refine ⟨k', by omega, ?_⟩;simp only [spec_l2Kind.l1];rewrite [e1, rd_last, if_pos (by omega), if_pos (by omega), if_pos (by omega), e2];by_cases h : a = part
  ·rewrite [if_pos h, if_pos (by omega), e3, he];simp [h]
  ·rewrite [if_neg h, if_neg (by simp [h])];rfl
def okNodes (t : List Nd) : Prop := ∀ x ∈ t, 0 ≤ x.f1 ∧ x.f1 < 18446744073709551616
theorem rd_at {t : List Nd} {i : Nat} (h : i < t.length) : rd_T53 t (i : Int) = t[i] := by
 unfold rd_T53;rw [Int.toNat_natCast, List.getD_eq_getElem?_getD, List.getElem?_eq_getElem h]; rfl
def top (r : Option (List Int)) : Int := match r with
 | some [x] => x
 | _ => 0
theorem spec_l2Kind_loop (w v : Int) (t : List Nd) (hok : okNodes t) (hv0 : 0 ≤ v) (hv : v ≤ 4) (ht : t.length ≤ 48) (d : Nat) : ∀ (i : Nat) (st : List Int) (k : Nat), i + d = t.length → st.length ≤ i → 5 * d + 70 < k →
  spec_l2Kind.l0 k w v st.reverse t (t.length : Int) (i : Int) = some (top (runK w v (t.drop i) st)) := by
 induction d with
 | zero =>
  intro i st k hi hs hk;obtain ⟨k, rfl⟩ : ∃ m, k = m + 1 := ⟨k - 1, by omega⟩;simp only [spec_l2Kind.l0];rewrite [if_neg (by omega), List.drop_eq_nil_of_le (by omega)];simp only [runK, List.length_reverse];match st with
  | [] => simp [top]
  | [a] => simp [top, rd]
  | a :: b :: s => rewrite [if_neg (by simp only [List.length_cons]; omega)]; rfl
 | succ d ih =>
  intro i st k hi hs hk;obtain ⟨k, rfl⟩ : ∃ m, k = m + 2 := ⟨k - 2, by omega⟩;have hit : i < t.length := by omega
  have q0 : (0 : Int) ≤ (i : Int) := by omega
  have q1 : (i : Int) < (t.length : Int) := by omega
  have q2 : 3 < k + 1 := by omega
  have q3 : 65 < k + 1 := by omega
  have q4 : i + 1 + d = t.length := by omega
  have q5 : st.length ≤ 48 := by omega
  have e1 : wrap64 ((i : Int) + 1) = ((i + 1 : Nat) : Int) := by rw [wrap64_id _ (by omega) (by omega)]; omega
  have hx := hok t[i] (List.getElem_mem hit);obtain ⟨mm, pp, rr, hn, b0, b1, b2, b3, b4, b5⟩ := need_is t[i].f0;have hdrop : t.drop i = t[i] :: t.drop (i + 1) := List.drop_eq_getElem_cons hit;simp only [spec_l2Kind.l0];rewrite [if_pos q1, if_pos q0, if_pos q1, rd_at hit, need_spec _ _ q2, hn];simp only [Option.bind_some];rewrite [hdrop];simp only [runK];unfold stepK;simp only [hn];clear hdrop;by_cases h0 : rr = 0
  ·rewrite [if_pos h0, if_pos h0];simp only [spec_l2Kind.j2, if_true];rfl
  ·rewrite [if_neg h0, if_neg h0, leaf_spec _ w v _ _ q3 hv0 hv hx.1 hx.2];clear hx;simp only [Option.bind_some];by_cases h1 : leafB w v t[i] = true
   ·rewrite [if_pos h1, if_pos h1];simp only [spec_l2Kind.j2, List.length_reverse];by_cases h2 : (st.length : Int) < mm
    ·rewrite [if_pos (by simpa using h2), if_pos h2];rfl
    ·rewrite [if_neg (by simpa using h2), if_neg h2];obtain ⟨m, hm⟩ := Int.eq_ofNat_of_zero_le b0;rw [hm];have hm2 : (m : Int) ≤ 2 := (by omega);obtain ⟨k', hk', he⟩ := spec_pop w v pp rr t (t.length : Int) (i : Int) m st k (by omega) q5 hm2 (by omega);rewrite [he, Int.toNat_natCast, e1];by_cases h3 : (st.take m).all (fun y => y == pp) = true
     ·rewrite [if_pos h3, if_pos h3];have := ih (i + 1) (rr :: st.drop m) k' q4 (by simp only [List.length_cons, List.length_drop]; omega) (by omega);rw [List.reverse_cons] at this;rw [this];rfl
     ·rewrite [if_neg h3, if_neg h3];rfl
   ·rewrite [if_neg h1, if_neg h1];simp only [spec_l2Kind.j2, if_true];rfl
def kindT (w v : Int) (t : List Nd) : Int :=
 if 1 ≤ w ∧ w ≤ 64 ∧ 1 ≤ v ∧ v ≤ 4 ∧ 1 ≤ t.length ∧ t.length ≤ 48 then top (runK w v t []) else 0
theorem l2Kind_val (k : Nat) (w v : Int) (t : List Nd) (hok : okNodes t) (hk : 400 < k) : spec_l2Kind.f k w v t = some (kindT w v t) := by
 obtain ⟨k, rfl⟩ : ∃ m, k = m + 1 := ⟨k - 1, by omega⟩;unfold spec_l2Kind.f kindT;rw [l1Wide_val, l1In_val, l1In_val];simp only [Option.bind_some, decide_eq_true_eq, spec_l2Kind.j0];by_cases h1 : 1 ≤ w ∧ w ≤ 64
 ·rewrite [if_pos h1];by_cases h2 : 1 ≤ v ∧ v ≤ 4
  ·rewrite [if_pos h2];by_cases h3 : 1 ≤ (t.length : Int) ∧ (t.length : Int) ≤ 48
   ·rewrite [if_neg (by simp [h3]), if_pos (by omega)];have := spec_l2Kind_loop w v t hok (by omega) h2.2 (by omega) t.length 0 [] k (by omega) (by simp) (by omega);simpa using this
   ·rewrite [if_pos (by rw [decide_eq_false h3]; rfl), if_neg (by omega)];rfl
  ·rewrite [if_neg h2, if_pos trivial, if_neg (by omega)];rfl
 ·rewrite [if_neg h1, if_pos trivial, if_neg (by omega)];rfl
theorem goodTerm_spec (k : Nat) (w v : Int) (t : List Nd) (hok : okNodes t) (hk : 400 < k) : spec_GoodTerm.f k w v t = some (decide (kindT w v t > 0)) := by
 unfold spec_GoodTerm.f;rw [l2Kind_val k w v t hok hk];rfl
theorem drop_rev (st : List Int) (m : Nat) (h : m ≤ st.length) : st.reverse.drop (st.length - m) = (st.take m).reverse := by
 rw [List.drop_reverse]; congr 2; omega
theorem take_rev (st : List Int) (m : Nat) (h : m ≤ st.length) : st.reverse.take (st.length - m) = (st.drop m).reverse := by
 rw [List.take_reverse]; congr 2; omega
theorem any_ne_all (l : List Int) (p : Int) : (l.reverse.any fun x => x != p) = !(l.all fun y => y == p) := by
 rw [List.any_reverse, List.not_all_eq_any_not];rfl
def oneLeft (r : Option (List Int)) : Bool := match r with
 | some [_] => true
 | _ => false
theorem impl_GoodTerm_loop (w v : Int) (t : List Nd) (hok : okNodes t) (hv0 : 0 ≤ v) (hv : v ≤ 4) (ht : t.length ≤ 48) (d : Nat) : ∀ (i : Nat) (st : List Int) (k : Nat), i + d = t.length → st.length ≤ i → d + 10 < k →
  impl_GoodTerm.l0 k w v st.reverse t (t.length : Int) (i : Int) = some (oneLeft (runK w v (t.drop i) st)) := by
 induction d with
 | zero =>
  intro i st k hi hs hk;obtain ⟨k, rfl⟩ : ∃ m, k = m + 1 := ⟨k - 1, by omega⟩;simp only [impl_GoodTerm.l0];rw [if_neg (by omega), List.drop_eq_nil_of_le (by omega)];simp only [runK, List.length_reverse];match st with
  | [] => rfl
  | [a] => rfl
  | a :: b :: s => simp only [List.length_cons, oneLeft, Option.some.injEq]; rw [beq_eq_false_iff_ne]; omega
 | succ d ih =>
  intro i st k hi hs hk;obtain ⟨k, rfl⟩ : ∃ m, k = m + 1 := ⟨k - 1, by omega⟩;have hit : i < t.length := by omega
  have q0 : (0 : Int) ≤ (i : Int) := by omega
  have q1 : (i : Int) < (t.length : Int) := by omega
  have q2 : 3 < k := by omega
  have q4 : i + 1 + d = t.length := by omega
  have q5 : st.length ≤ 48 := by omega
  have e1 : wrap64 ((i : Int) + 1) = ((i + 1 : Nat) : Int) := by rw [wrap64_id _ (by omega) (by omega)]; omega
  have hx := hok t[i] (List.getElem_mem hit);obtain ⟨mm, pp, rr, hn, b0, b1, b2, b3, b4, b5⟩ := need_is t[i].f0;obtain ⟨n1, n2, n3⟩ := needI_eq t[i].f0;rw [hn] at n1 n2 n3;simp only at n1 n2 n3;have hdrop : t.drop i = t[i] :: t.drop (i + 1) := List.drop_eq_getElem_cons hit;simp only [impl_GoodTerm.l0];rewrite [if_pos q1, if_pos q0, if_pos q1, rd_at hit, need_impl _ _ q2];simp only [Option.bind_some];rewrite [n1, n2, hdrop];simp only [runK];unfold stepK;simp only [hn];clear hdrop n1 n2 hn;by_cases h0 : rr = 0
  ·rewrite [if_pos h0, if_pos h0];rfl
  ·rewrite [if_neg h0, if_neg h0, leaf_impl w v _ _ hv0 hv hx.1];clear hx;simp only [Option.bind_some];by_cases h1 : leafB w v t[i] = true
   ·rewrite [if_pos h1, if_pos h1];clear h1;have hl : (st.reverse.length : Int) = (st.length : Int) := (by simp);obtain ⟨m, hm⟩ := Int.eq_ofNat_of_zero_le b0;subst hm;have e2 : wrap64 ((st.reverse.length : Int) - (m : Int)) = (st.length : Int) - (m : Int) := (by rw [wrap64_id _ (by omega) (by omega), hl]);rewrite [e2];by_cases h2 : (st.length : Int) < (m : Int)
    ·rewrite [if_pos (by omega), if_pos h2];rfl
    ·have hms : m ≤ st.length := (by omega);have e3 : ((st.length : Int) - (m : Int)).toNat = st.length - m := (by omega);rewrite [if_neg (by omega), if_pos (by omega), if_pos (by omega), if_neg h2, e3, drop_rev st m hms, take_rev st m hms];unfold impl_GoodTerm_any.f;simp only [Option.bind_some];rewrite [any_ne_all, Int.toNat_natCast];have hpart : ((st.take m).all fun y => y == (needI t[i].f0).2.1) = ((st.take m).all fun y => y == pp) := by
      by_cases hz : (m : Int) = 0
      ·obtain rfl : m = 0 := (by omega);rfl
      ·rw [n3 hz]
     rewrite [hpart];clear hpart n3;by_cases h3 : (st.take m).all (fun y => y == pp) = true
     ·rewrite [if_neg (by rw [h3]; decide), if_pos h3, if_pos (by simp; omega), e1];have := ih (i + 1) (rr :: st.drop m) k q4 (by simp only [List.length_cons, List.length_drop]; omega) (by omega);rw [List.reverse_cons] at this;exact this
     ·rewrite [if_pos (by simpa using h3), if_neg h3];rfl
   ·rewrite [if_neg h1, if_neg h1];rfl
theorem step_pos (w v : Int) (st : List Int) (x : Nd) (st' : List Int) (h : stepK w v st x = some st') (hs : ∀ y ∈ st, y = 1 ∨ y = 2) : ∀ y ∈ st', y = 1 ∨ y = 2 := by
 obtain ⟨mm, pp, rr, hn, b0, b1, b2, b3, b4, b5⟩ := need_is x.f0;unfold stepK at h;rw [hn] at h;simp only at h;split at h
 ·cases h
 ·split at h
  ·split at h
   ·cases h
   ·split at h
    ·obtain rfl := Option.some.inj h;intro y hy;rcases List.mem_cons.1 hy with rfl | hy
     ·omega
     ·exact hs y (List.mem_of_mem_drop hy)
    ·cases h
  ·cases h
theorem run_pos (w v : Int) (t : List Nd) : ∀ st st', runK w v t st = some st' → (∀ y ∈ st, y = 1 ∨ y = 2) → ∀ y ∈ st', y = 1 ∨ y = 2 := by
 induction t with
 | nil => intro st st' h hs; simp only [runK, Option.some.injEq] at h; subst h; exact hs
 | cons x t ih =>
  intro st st' h hs;simp only [runK, Option.bind_eq_some_iff] at h;obtain ⟨s1, h1, h2⟩ := h;exact ih _ _ h2 (step_pos w v st x s1 h1 hs)
theorem oneLeft_top (w v : Int) (t : List Nd) : oneLeft (runK w v t []) = decide (top (runK w v t []) > 0) := by
 cases h : runK w v t [] with
 | none => rfl
 | some st =>
  have hp := run_pos w v t [] st h (fun y hy => absurd hy (by simp));match st with
  | [] => rfl
  | [a] => have := hp a (by simp); show true = decide (a > 0); symm; exact decide_eq_true (by omega)
  | a :: b :: s => rfl
theorem goodTerm_impl (k : Nat) (w v : Int) (t : List Nd) (hok : okNodes t) (hk : 400 < k) : impl_GoodTerm.f k w v t = some (decide (kindT w v t > 0)) := by
 obtain ⟨k, rfl⟩ : ∃ m, k = m + 1 := ⟨k - 1, by omega⟩;unfold impl_GoodTerm.f kindT;rw [isWide_val, isVars_val];simp only [Option.bind_some, decide_eq_true_eq, impl_GoodTerm.j0];by_cases h1 : 1 ≤ w ∧ w ≤ 64
 ·rewrite [if_pos h1];by_cases h2 : 1 ≤ v ∧ v ≤ 4
  ·rewrite [if_pos h2];by_cases h3 : (t.length : Int) < 1
   ·rewrite [if_pos h3, if_pos trivial, if_neg (by omega)];rfl
   ·rewrite [if_neg h3];by_cases h4 : (t.length : Int) > 48
    ·rewrite [if_pos h4, if_neg (by omega)];rfl
    ·rewrite [if_neg h4, if_pos (by omega)];have := impl_GoodTerm_loop w v t hok (by omega) h2.2 (by omega) t.length 0 [] k (by omega) (by simp) (by omega);rw [List.drop_zero] at this;rw [← oneLeft_top];exact this
  ·rewrite [if_neg h2, if_pos trivial, if_neg (by omega)];rfl
 ·rewrite [if_neg h1, if_pos trivial, if_neg (by omega)];rfl
abbrev Nl := S55
def conv (x : Nl) : Nd := ⟨x.f0, x.f1⟩
theorem rdl_at {t : List Nl} {i : Nat} (h : i < t.length) : rd_T55 t (i : Int) = t[i] := by
 unfold rd_T55;rw [Int.toNat_natCast, List.getD_eq_getElem?_getD, List.getElem?_eq_getElem h]; rfl
theorem sz_val (l : List Nl) (hl : l.length ≤ 9223372036854775807) : laws_szNodeS.f l 1048576 = some (if 1048576 < l.length then -1 else 1048576 - (l.length : Int)) := by
 unfold laws_szNodeS.f;rw [wrap64_id _ (by omega) (by omega)];by_cases h : 1048576 < l.length
 ·rw [if_pos (by omega), if_pos h]
 ·rw [if_neg (by omega), if_neg h]
theorem toNodes_loop (l : List Nl) (hl : l.length ≤ 1048576) (d : Nat) : ∀ (i : Nat) (k : Nat), i + d = l.length → d < k →
  laws_toNodeS.l0 k l ((l.take i).map conv ++ List.replicate d z53) (i : Int) = some (l.map conv) := by
 induction d with
 | zero =>
  intro i k hi hk;obtain ⟨k, rfl⟩ : ∃ m, k = m + 1 := ⟨k - 1, by omega⟩;simp only [laws_toNodeS.l0];rw [if_neg (by omega), List.take_of_length_le (by omega)];simp
 | succ d ih =>
  intro i k hi hk;obtain ⟨k, rfl⟩ : ∃ m, k = m + 1 := ⟨k - 1, by omega⟩;have hit : i < l.length := by omega
  have e1 : wrap64 ((i : Int) + 1) = ((i + 1 : Nat) : Int) := by rw [wrap64_id _ (by omega) (by omega)]; omega
  simp only [laws_toNodeS.l0];rewrite [if_pos (by omega), if_pos (by omega)];unfold laws_toNode.f;simp only [Option.bind_some];rewrite [if_pos (by simp; omega), rdl_at hit, e1, Int.toNat_natCast, List.replicate_succ, set_mid _ _ _ _ _ (by simp; omega)];have h2 : (l.take i).map conv ++ (⟨l[i].f0, l[i].f1⟩ : Nd) :: List.replicate d z53 = (l.take (i + 1)).map conv ++ List.replicate d z53 := by
   rw [List.take_add_one, List.getElem?_eq_getElem hit, Option.toList_some, List.map_append, List.append_assoc];rfl
  rewrite [h2];exact ih (i + 1) k (by omega) (by omega)
theorem toNodes_val (k : Nat) (l : List Nl) (hl : l.length ≤ 1048576) (hk : l.length < k) : laws_toNodeS.f k l = some (l.map conv) := by
 unfold laws_toNodeS.f;rw [if_pos (by omega), Int.toNat_natCast, if_pos (by omega)];have := toNodes_loop l hl l.length 0 k (by omega) hk;simpa using this
theorem eqNodes_loop (l : List Nd) (hl : l.length ≤ 1048576) (d : Nat) : ∀ (i : Nat) (k : Nat), i + d = l.length → d < k → laws_eqNodeS.l0 k l l (i : Int) = some true := by
 induction d with
 | zero =>
  intro i k hi hk;obtain ⟨k, rfl⟩ : ∃ m, k = m + 1 := ⟨k - 1, by omega⟩;simp only [laws_eqNodeS.l0];rw [if_neg (by omega)]
 | succ d ih =>
  intro i k hi hk;obtain ⟨k, rfl⟩ : ∃ m, k = m + 1 := ⟨k - 1, by omega⟩;have e1 : wrap64 ((i : Int) + 1) = ((i + 1 : Nat) : Int) := by rw [wrap64_id _ (by omega) (by omega)]; omega
  simp only [laws_eqNodeS.l0];rewrite [if_pos (by omega), if_pos (by omega), if_pos (by omega)];unfold laws_eqNode.f;rewrite [if_pos rfl, if_pos rfl];simp only [Option.bind_some, if_true];rewrite [e1];exact ih (i + 1) k (by omega) (by omega)
theorem eqNodes_val (k : Nat) (l : List Nd) (hl : l.length ≤ 1048576) (hk : l.length < k) : laws_eqNodeS.f k l l = some true := by
 unfold laws_eqNodeS.f;rw [if_pos rfl];exact eqNodes_loop l hl l.length 0 k (by omega) hk
theorem conv_ok (l : List Nl) (h : ∀ y ∈ l, wf55 y) : okNodes (l.map conv) := by
 intro x hx;obtain ⟨y, hy, rfl⟩ := List.mem_map.1 hx;exact wf_u64 (h y hy).2
theorem runK_append (w v : Int) (t u : List Nd) : ∀ st, runK w v (t ++ u) st = (runK w v t st).bind (runK w v u) := by
 induction t with
 | nil => intro st; rfl
 | cons x t ih =>
  intro st;simp only [List.cons_append, runK, Option.bind_assoc];congr 1;funext s;exact ih s
theorem step_head (w v : Int) (st st' : List Int) (x : Nd) (h : stepK w v st x = some st') : ∃ s, st' = (need x.f0).2.2 :: s := by
 unfold stepK at h;split at h
 ·cases h
 ·split at h
  ·split at h
   ·cases h
   ·split at h
    ·exact ⟨_, (Option.some.inj h).symm⟩
    ·cases h
  ·cases h
theorem kindT_last (w v : Int) (t : List Nd) (h : kindT w v t > 0) : ∃ u x, t = u ++ [x] ∧ kindT w v t = (need x.f0).2.2 := by
 unfold kindT at h ⊢;split at h
 ·rename_i hc
  rw [if_pos hc];obtain ⟨u, x, rfl⟩ : ∃ u x, t = u ++ [x] := by
   rcases List.eq_nil_or_concat t with h0 | ⟨u, x, h0⟩
   ·subst h0; simp at hc
   ·exact ⟨u, x, by simpa using h0⟩
  refine ⟨u, x, rfl, ?_⟩;rw [runK_append] at h ⊢;cases h1 : runK w v u [] with
  | none => rw [h1] at h; simp [top] at h
  | some s =>
   rw [h1] at h;simp only [Option.bind_some, runK] at h ⊢;cases h2 : stepK w v s x with
   | none => rw [h2] at h; simp [top] at h
   | some s2 =>
    obtain ⟨s3, rfl⟩ := step_head w v s s2 x h2;rw [h2] at h;simp only [Option.bind_some] at h ⊢;match s3 with
    | [] => rfl
    | b :: r => simp [top] at h
 ·exact absurd h (by decide)
theorem kindOf_val (k : Nat) (w v : Int) (t : List Nd) (h : kindT w v t > 0) (hk : 400 < k) : impl_kindOf.f k t = some (kindT w v t) := by
 have hlen : t.length ≤ 48 := by
  unfold kindT at h;split at h
  ·omega
  ·exact absurd h (by decide)
 obtain ⟨u, x, rfl, he⟩ := kindT_last w v t h;rw [he];have e1 : wrap64 (((u ++ [x]).length : Int) - 1) = (u.length : Int) := by
  rw [wrap64_id _ (by simp only [List.length_append, List.length_cons, List.length_nil]; omega) (by omega)]; simp
 have e2 : rd_T53 (u ++ [x]) (u.length : Int) = x := by rw [rd_at (by simp)]; simp
 unfold impl_kindOf.f;rw [e1, if_pos (by omega), if_pos (by simp only [List.length_append, List.length_cons, List.length_nil]; omega), e2, need_impl _ _ (by omega)];simp only [Option.bind_some];rw [(needI_eq x.f0).2.1]
theorem rdNode_at {t : List Nd} {i : Nat} (h : i < t.length) : rd_T53 t (i : Int) = t[i] := rd_at h
def mkNode (m : Int) : Nat → List S53
 | 0 => []
 | n + 1 => ⟨m, m + 1⟩ :: mkNode (m + 2) n
theorem mkNode_len (n : Nat) : ∀ m, (mkNode m n).length = n := by
 induction n with
 | zero => intro m; rfl
 | succ n ih => intro m; simp [mkNode, ih]
theorem mkNode_snoc (n : Nat) : ∀ m, mkNode m (n + 1) = mkNode m n ++ [⟨m + 2 * (n : Int), m + 2 * (n : Int) + 1⟩] := by
 induction n with
 | zero => intro m; simp [mkNode]
 | succ n ih =>
  intro m;rw [mkNode, ih (m + 2), mkNode, List.cons_append];have : m + 2 + 2 * (n : Int) = m + 2 * ((n + 1 : Nat) : Int) := by omega
  rw [this]
theorem markNode_loop (b : Int) (hb : 0 ≤ b) (hb2 : b ≤ 100000000) (l : List S53) (hl : l.length ≤ 1048576) (d : Nat) : ∀ (i k : Nat), i + d = l.length → d < k →
  laws_markNodeS.l0 k (mkNode b i ++ l.drop i) (b + 2 * (i : Int)) (i : Int) = some (b + 2 * (l.length : Int), mkNode b l.length) := by
 induction d with
 | zero =>
  intro i k hi hk;obtain ⟨k, rfl⟩ : ∃ m, k = m + 1 := ⟨k - 1, by omega⟩;obtain rfl : i = l.length := by omega
  simp only [laws_markNodeS.l0];rw [if_neg (by simp [mkNode_len]), List.drop_eq_nil_of_le (by omega), List.append_nil]
 | succ d ih =>
  intro i k hi hk;obtain ⟨k, rfl⟩ : ∃ m, k = m + 1 := ⟨k - 1, by omega⟩;have hit : i < l.length := by omega
  have e1 : wrap64 ((i : Int) + 1) = ((i + 1 : Nat) : Int) := by rw [wrap64_id _ (by omega) (by omega)]; omega
  have q0 : wrap64 (b + 2 * (i : Int) + 1) = b + 2 * (i : Int) + 1 := by rw [wrap64_id _ (by omega) (by omega)]
  have q1 : wrap64 (b + 2 * (i : Int) + 1 + 1) = b + 2 * ((i + 1 : Nat) : Int) := by rw [wrap64_id _ (by omega) (by omega)]; omega
  have w1 : IntKind.u64.wrap (b + 2 * (i : Int) + 1) = b + 2 * (i : Int) + 1 := u64_id _ (by omega) (by omega);have hd : l.drop i = l[i] :: l.drop (i + 1) := List.drop_eq_getElem_cons hit;have hset : ∀ y z : S53, (mkNode b i ++ y :: l.drop (i + 1)).set i z = mkNode b i ++ z :: l.drop (i + 1) := fun y z => set_mid _ _ _ _ _ (by rw [mkNode_len]);have hrd : ∀ y : S53, rd_T53 (mkNode b i ++ y :: l.drop (i + 1)) (i : Int) = y := by
   intro y;rw [rdNode_at (by simp [mkNode_len]), List.getElem_append_right (by rw [mkNode_len]; omega)];simp [mkNode_len]
  simp only [laws_markNodeS.l0];rewrite [if_pos (by simp [mkNode_len]; omega), if_pos (by omega)];(try simp only [Option.bind_some])
  rewrite [hd, Int.toNat_natCast, hset, hset, hrd, hrd, e1, q0, q1, w1];have := ih (i + 1) k (by omega) (by omega);rw [mkNode_snoc, List.append_assoc] at this;exact this
theorem markNode_val (k : Nat) (b : Int) (hb : 0 ≤ b) (hb2 : b ≤ 100000000) (l : List S53) (hl : l.length ≤ 1048576) (hk : l.length < k) : laws_markNodeS.f k l b = some (b + 2 * (l.length : Int), mkNode b l.length) := by
 have := markNode_loop b hb hb2 l hl l.length 0 k (by omega) hk;unfold laws_markNodeS.f;simpa [mkNode] using this
theorem rdGate_at {t : List S75} {i : Nat} (h : i < t.length) : rd_T75 t (i : Int) = t[i] := by
 unfold rd_T75;rw [Int.toNat_natCast, List.getD_eq_getElem?_getD, List.getElem?_eq_getElem h]; rfl
abbrev Gt := S75
def below (w x : Int) : Bool := decide (0 ≤ x) && decide (x < w)
def okGate (w : Int) (g : Gt) : Bool :=
 if g.f0 = 1 then below 2 g.f1 && decide (g.f2 = 0)
 else if g.f0 = 2 then below w g.f1 && decide (g.f2 = 0)
 else if 3 ≤ g.f0 ∧ g.f0 ≤ 5 then below w g.f1 && below w g.f2 else false
def okGates : Int → List Gt → Bool
 | _, [] => true
 | w, g :: r => okGate w g && okGates (w + 1) r
def okCirc (n : Int) (g : List Gt) (o : List Int) : Bool :=
 decide (0 ≤ n ∧ n ≤ 16 ∧ g.length ≤ 300 ∧ o.length ≤ 16) && (okGates n g && o.all (below (n + (g.length : Int))))
theorem offWire_eq (w x : Int) : offWire w x = !below w x := by
 unfold offWire below;by_cases h : x < 0
 ·rw [decide_eq_true h, decide_eq_false (show ¬ (0 ≤ x) by omega)]; rfl
 ·rw [decide_eq_false h, decide_eq_true (show 0 ≤ x by omega)];by_cases h2 : x < w
  ·rw [decide_eq_true h2, decide_eq_false (show ¬ (w ≤ x) by omega)]; rfl
  ·rw [decide_eq_false h2, decide_eq_true (show w ≤ x by omega)]; rfl
theorem l1In_below (x w : Int) : spec_l1In.f x 0 (w - 1) = some (below w x) := by
 unfold spec_l1In.f below;by_cases h : x ≥ 0
 ·rw [if_pos h, decide_eq_true (show 0 ≤ x from h), Bool.true_and];congr 1;exact decide_eq_decide.mpr (by omega)
 ·rw [if_neg h, decide_eq_false (show ¬ (0 ≤ x) from h)]; rfl
theorem wiresBelow_val (l : List Int) (w : Int) : impl_areWiresBelow.f l w = some (l.all (below w)) := by
 unfold impl_areWiresBelow.f impl_areWiresBelow_any.f;simp only [Option.bind_some];congr 1;induction l with
 | nil => rfl
 | cons x t ih =>
  rw [List.any_cons, List.all_cons, Bool.not_or, ih, offWire_eq, Bool.not_not]
theorem l1All_loop (w : Int) (l : List Int) (hl : l.length ≤ 1048576) (d : Nat) : ∀ (i k : Nat), i + d = l.length → d < k →
  spec_l1All.l0 k 0 (w - 1) l (l.length : Int) (i : Int) = some ((l.drop i).all (below w)) := by
 induction d with
 | zero =>
  intro i k hi hk;obtain ⟨k, rfl⟩ : ∃ m, k = m + 1 := ⟨k - 1, by omega⟩;simp only [spec_l1All.l0];rw [if_neg (by omega), List.drop_eq_nil_of_le (by omega)]; rfl
 | succ d ih =>
  intro i k hi hk;obtain ⟨k, rfl⟩ : ∃ m, k = m + 1 := ⟨k - 1, by omega⟩;have hit : i < l.length := by omega
  have e1 : wrap64 ((i : Int) + 1) = ((i + 1 : Nat) : Int) := by rw [wrap64_id _ (by omega) (by omega)]; omega
  have hd : l.drop i = l[i] :: l.drop (i + 1) := List.drop_eq_getElem_cons hit;simp only [spec_l1All.l0];rewrite [if_pos (by omega), if_pos (by omega), if_pos (by omega), rdInt_at hit, l1In_below, hd, List.all_cons];simp only [Option.bind_some];cases hb : below w l[i] with
  | false => rewrite [if_neg (by decide)]; rfl
  | true => rewrite [if_pos rfl, e1, ih (i + 1) k (by omega) (by omega)]; rfl
theorem l1All_val (w : Int) (l : List Int) (hl : l.length ≤ 1048576) (k : Nat) (hk : l.length < k) : spec_l1All.f k l 0 (w - 1) = some (l.all (below w)) :=
 l1All_loop w l hl l.length 0 k (by omega) hk
theorem eq0_dec (x : Int) : (x == 0) = decide (x = 0) := rfl
theorem spec_gate (g : Gt) (w : Int) (hw : -1000000 ≤ w) (hw2 : w ≤ 1000000) (k : Nat) (hk : 1 ≤ k) : spec_l4Gate.f k g.f0 g.f1 g.f2 w = some (okGate w g) := by
 obtain ⟨k, rfl⟩ : ∃ m, k = m + 1 := ⟨k - 1, by omega⟩;have ew : wrap64 (w - 1) = w - 1 := wrap64_id _ (by omega) (by omega);have hj : ∀ b, spec_l4Gate.j0 (k + 1) w b g.f0 g.f1 g.f2 = some (b && (below w g.f1 && below w g.f2)) := by
  intro b;simp only [spec_l4Gate.j0];rewrite [ew, l1In_below, l1In_below];cases b with
  | false => rfl
  | true =>
   rewrite [if_pos rfl];simp only [Option.bind_some];cases below w g.f1 <;> rfl
 have e2 : spec_l1In.f g.f1 0 1 = some (below 2 g.f1) := l1In_below g.f1 2;unfold spec_l4Gate.f okGate;rewrite [ew, l1In_below, e2];simp only [Option.bind_some, hj, eq0_dec];by_cases h1 : g.f0 = 1
 ·rewrite [if_pos h1, if_pos h1];cases below 2 g.f1 <;> rfl
 ·rewrite [if_neg h1, if_neg h1];by_cases h2 : g.f0 = 2
  ·rewrite [if_pos h2, if_pos h2];cases below w g.f1 <;> rfl
  ·rewrite [if_neg h2, if_neg h2];by_cases h3 : g.f0 = 3
   ·rewrite [if_pos h3, if_pos (by omega), beq_iff_eq.mpr h3]; rfl
   ·rewrite [if_neg h3];by_cases h4 : g.f0 = 4
    ·rewrite [if_pos h4, if_pos (by omega), beq_iff_eq.mpr h4]; rfl
    ·rewrite [if_neg h4];by_cases h5 : g.f0 = 5
     ·rewrite [if_pos (by omega), beq_iff_eq.mpr h5]; rfl
     ·rewrite [if_neg (by omega), beq_eq_false_iff_ne.mpr h5]; rfl
theorem impl_gate (g : Gt) (w : Int) (k : Nat) (hk : 3 ≤ k) : impl_isGate.f k g.f0 g.f1 g.f2 w = some (okGate w g) := by
 obtain ⟨k, rfl⟩ : ∃ m, k = m + 3 := ⟨k - 3, by omega⟩;unfold impl_isGate.f okGate;by_cases ha : g.f0 < 1
 ·rewrite [if_pos ha, if_neg (by omega), if_neg (by omega), if_neg (by omega)];simp only [impl_isGate.j0];rfl
 ·rewrite [if_neg ha];by_cases hb : g.f0 > 5
  ·rewrite [decide_eq_true hb, if_neg (by omega), if_neg (by omega), if_neg (by omega)];simp only [impl_isGate.j0];rfl
  ·rewrite [decide_eq_false hb];simp only [impl_isGate.j0];rewrite [if_neg (by decide)];by_cases h1 : g.f0 = 1
   ·rewrite [if_pos h1, if_pos h1];unfold below;by_cases h2 : g.f1 < 0
    ·rewrite [if_pos h2, decide_eq_false (show ¬ (0 ≤ g.f1) by omega)];simp only [impl_isGate.j1];rfl
    ·rewrite [if_neg h2, decide_eq_true (show 0 ≤ g.f1 by omega)];by_cases h3 : g.f1 > 1
     ·rewrite [decide_eq_true h3, decide_eq_false (show ¬ (g.f1 < 2) by omega)];simp only [impl_isGate.j1];rfl
     ·rewrite [decide_eq_false h3, decide_eq_true (show g.f1 < 2 by omega)];simp only [impl_isGate.j1];rewrite [if_neg (by decide), if_pos (by omega)];by_cases h4 : g.f2 = 0
      ·rewrite [decide_eq_true h4, bne_eq_false_iff_eq.mpr h4];simp only [impl_isGate.j2];rewrite [if_neg (by decide)];unfold impl_Gate_uses.f;rewrite [if_pos h1];simp only [Option.bind_some];rewrite [wiresBelow_val];rfl
      ·rewrite [decide_eq_false h4, bne_iff_ne.mpr h4];simp only [impl_isGate.j2];rfl
   ·rewrite [if_neg h1, if_neg h1];simp only [impl_isGate.j1];rewrite [if_neg (by decide)];by_cases h2 : g.f0 = 2
    ·rewrite [if_pos (by omega), if_pos h2];by_cases h4 : g.f2 = 0
     ·rewrite [decide_eq_true h4, bne_eq_false_iff_eq.mpr h4];simp only [impl_isGate.j2];rewrite [if_neg (by decide)];unfold impl_Gate_uses.f;rewrite [if_neg h1, if_pos h2];simp only [Option.bind_some];rewrite [wiresBelow_val];rfl
     ·rewrite [decide_eq_false h4, bne_iff_ne.mpr h4, Bool.and_false];simp only [impl_isGate.j2];rfl
    ·rewrite [if_neg (by omega), if_neg h2, if_pos (by omega)];simp only [impl_isGate.j2];rewrite [if_neg (by decide)];unfold impl_Gate_uses.f;rewrite [if_neg h1, if_neg h2];simp only [Option.bind_some];rewrite [wiresBelow_val];simp only [List.all_cons, List.all_nil, Bool.and_true];rfl
theorem specCirc_loop (n : Int) (h0 : 0 ≤ n) (h1 : n ≤ 16) (g : List Gt) (hg : g.length ≤ 300) (o : List Int) (ho : o.length ≤ 16) (d : Nat) : ∀ (i k : Nat), i + d = g.length → d + 20 < k →
  spec_GoodCircuit.l0 k g (g.length : Int) (i : Int) n g o = some (okGates (n + (i : Int)) (g.drop i) && o.all (below (n + (g.length : Int)))) := by
 induction d with
 | zero =>
  intro i k hi hk;obtain ⟨k, rfl⟩ : ∃ m, k = m + 1 := ⟨k - 1, by omega⟩;have ew : wrap64 (n + (g.length : Int)) = n + (g.length : Int) := wrap64_id _ (by omega) (by omega);have ew2 : wrap64 (n + (g.length : Int) - 1) = n + (g.length : Int) - 1 := wrap64_id _ (by omega) (by omega);simp only [spec_GoodCircuit.l0];rewrite [if_neg (by omega), List.drop_eq_nil_of_le (by omega)];unfold spec_l4Wires.f;simp only [Option.bind_some];rewrite [ew, ew2, l1All_val _ _ (by omega) _ (by omega)];rfl
 | succ d ih =>
  intro i k hi hk;obtain ⟨k, rfl⟩ : ∃ m, k = m + 1 := ⟨k - 1, by omega⟩;have hit : i < g.length := by omega
  have e1 : wrap64 ((i : Int) + 1) = ((i + 1 : Nat) : Int) := by rw [wrap64_id _ (by omega) (by omega)]; omega
  have e2 : wrap64 (n + (i : Int)) = n + (i : Int) := wrap64_id _ (by omega) (by omega);have e3 : n + (i : Int) + 1 = n + ((i + 1 : Nat) : Int) := by omega
  have hd : g.drop i = g[i] :: g.drop (i + 1) := List.drop_eq_getElem_cons hit;simp only [spec_GoodCircuit.l0];rewrite [if_pos (by omega), if_pos (by omega), if_pos (by omega), rdGate_at hit, e2, spec_gate _ _ (by omega) (by omega) _ (by omega), hd, okGates];simp only [Option.bind_some];cases hb : okGate (n + (i : Int)) g[i] with
  | false => rewrite [if_neg (by decide)]; rfl
  | true => rewrite [if_pos rfl, e1, ih (i + 1) k (by omega) (by omega), e3]; rfl
theorem implCirc_loop (n : Int) (h0 : 0 ≤ n) (h1 : n ≤ 16) (g : List Gt) (hg : g.length ≤ 300) (o : List Int) (d : Nat) : ∀ (i k : Nat), i + d = g.length → d + 20 < k →
  impl_GoodCircuit.l0 k g (g.length : Int) (i : Int) n g o = some (okGates (n + (i : Int)) (g.drop i) && o.all (below (n + (g.length : Int)))) := by
 induction d with
 | zero =>
  intro i k hi hk;obtain ⟨k, rfl⟩ : ∃ m, k = m + 1 := ⟨k - 1, by omega⟩;have ew : wrap64 (n + (g.length : Int)) = n + (g.length : Int) := wrap64_id _ (by omega) (by omega);simp only [impl_GoodCircuit.l0];rewrite [if_neg (by omega), List.drop_eq_nil_of_le (by omega)];unfold impl_Circuit_wires.f;simp only [Option.bind_some];rewrite [ew, wiresBelow_val];rfl
 | succ d ih =>
  intro i k hi hk;obtain ⟨k, rfl⟩ : ∃ m, k = m + 1 := ⟨k - 1, by omega⟩;have hit : i < g.length := by omega
  have e1 : wrap64 ((i : Int) + 1) = ((i + 1 : Nat) : Int) := by rw [wrap64_id _ (by omega) (by omega)]; omega
  have e2 : wrap64 (n + (i : Int)) = n + (i : Int) := wrap64_id _ (by omega) (by omega);have e3 : n + (i : Int) + 1 = n + ((i + 1 : Nat) : Int) := by omega
  have hd : g.drop i = g[i] :: g.drop (i + 1) := List.drop_eq_getElem_cons hit;simp only [impl_GoodCircuit.l0];rewrite [if_pos (by omega), if_pos (by omega), if_pos (by omega), rdGate_at hit, e2, impl_gate _ _ _ (by omega), hd, okGates];simp only [Option.bind_some];cases hb : okGate (n + (i : Int)) g[i] with
  | false => rewrite [if_neg (by decide)]; rfl
  | true => rewrite [if_pos rfl, e1, ih (i + 1) k (by omega) (by omega), e3]; rfl
theorem okCirc_no (n : Int) (g : List Gt) (o : List Int) (h : ¬ (0 ≤ n ∧ n ≤ 16 ∧ g.length ≤ 300 ∧ o.length ≤ 16)) : okCirc n g o = false := by
 unfold okCirc;rw [decide_eq_false h]; rfl
theorem specCirc_val (n : Int) (g : List Gt) (o : List Int) (k : Nat) (hk : 400 ≤ k) : spec_GoodCircuit.f k n g o = some (okCirc n g o) := by
 obtain ⟨k, rfl⟩ : ∃ m, k = m + 1 := ⟨k - 1, by omega⟩;unfold spec_GoodCircuit.f spec_l1In.f;have hj : ∀ m, spec_GoodCircuit.j0 (m + 1) true n g o = some false := by
  intro m;simp only [spec_GoodCircuit.j0];rfl
 by_cases h0 : n ≥ 0
 ·rewrite [if_pos h0];simp only [Option.bind_some];by_cases h1 : n ≤ 16
  ·rewrite [decide_eq_true h1, if_pos rfl];by_cases h2 : (g.length : Int) > 300
   ·rewrite [if_pos h2, hj, okCirc_no n g o (by omega)]; rfl
   ·rewrite [if_neg h2];by_cases h3 : (o.length : Int) > 16
    ·rewrite [decide_eq_true h3, hj, okCirc_no n g o (by omega)]; rfl
    ·rewrite [decide_eq_false h3];simp only [spec_GoodCircuit.j0];have := specCirc_loop n h0 h1 g (by omega) o (by omega) g.length 0 k (by omega) (by omega);rewrite [Int.natCast_zero, Int.add_zero, List.drop_zero] at this;rewrite [if_neg (by decide), this];unfold okCirc;rewrite [decide_eq_true (show 0 ≤ n ∧ n ≤ 16 ∧ g.length ≤ 300 ∧ o.length ≤ 16 from ⟨h0, h1, by omega, by omega⟩)];rfl
  ·rewrite [decide_eq_false h1, if_neg (by decide), hj, okCirc_no n g o (by omega)]; rfl
 ·rewrite [if_neg h0];simp only [Option.bind_some];rewrite [if_neg (by decide), hj, okCirc_no n g o (by omega)]; rfl
theorem implCirc_val (n : Int) (g : List Gt) (o : List Int) (k : Nat) (hk : 400 ≤ k) : impl_GoodCircuit.f k n g o = some (okCirc n g o) := by
 obtain ⟨k, rfl⟩ : ∃ m, k = m + 1 := ⟨k - 1, by omega⟩;unfold impl_GoodCircuit.f;have hj : ∀ m, impl_GoodCircuit.j0 (m + 1) true n g o = some false := by
  intro m;simp only [impl_GoodCircuit.j0];rfl
 by_cases h0 : n < 0
 ·rewrite [if_pos h0, hj, okCirc_no n g o (by omega)]; rfl
 ·rewrite [if_neg h0];by_cases h1 : n > 16
  ·rewrite [if_pos h1, hj, okCirc_no n g o (by omega)]; rfl
  ·rewrite [if_neg h1];by_cases h2 : (g.length : Int) > 300
   ·rewrite [if_pos h2, hj, okCirc_no n g o (by omega)]; rfl
   ·rewrite [if_neg h2];by_cases h3 : (o.length : Int) > 16
    ·rewrite [decide_eq_true h3, hj, okCirc_no n g o (by omega)]; rfl
    ·rewrite [decide_eq_false h3];simp only [impl_GoodCircuit.j0];have := implCirc_loop n (by omega) (by omega) g (by omega) o g.length 0 k (by omega) (by omega);rewrite [Int.natCast_zero, Int.add_zero, List.drop_zero] at this;rewrite [if_neg (by decide), this];unfold okCirc;rewrite [decide_eq_true (show 0 ≤ n ∧ n ≤ 16 ∧ g.length ≤ 300 ∧ o.length ≤ 16 from ⟨by omega, by omega, by omega, by omega⟩)];rfl
theorem below_is {w x : Int} (h : below w x = true) : 0 ≤ x ∧ x < w := by
 unfold below at h;simpa using h
theorem twoN_len (ins op : Int) (a b : List Int) (g : List S75) (h : twoOp op = true) (hb : b.length = a.length) (h1 : 1 ≤ a.length) (h4 : a.length ≤ 4) :
  (twoN ins op a b g).1.length ≤ g.length + 110 ∧ (twoN ins op a b g).2.length = if op = 14 ∨ op = 15 ∨ op = 16 then 1 else a.length := by
 have hop : op = 3 ∨ op = 4 ∨ op = 5 ∨ op = 8 ∨ op = 9 ∨ op = 10 ∨ op = 14 ∨ op = 15 ∨ op = 16 ∨ op = 17 ∨ op = 18 := by unfold twoOp at h; simp only [Bool.or_eq_true, beq_iff_eq] at h; omega
 clear h;rcases hop with rfl | rfl | rfl | rfl | rfl | rfl | rfl | rfl | rfl | rfl | rfl
 ·have := addN_len ins a b (ins + (g.length : Int)) (g ++ [⟨1, 0, 0⟩]) a.length;rw [List.length_append, List.length_singleton] at this;unfold twoN;simp;omega
 ·have h2 := emitN_len ins (fun i => ⟨2, rd b i, 0⟩) g b.length;have := addN_len ins a (emitN ins (fun i => ⟨2, rd b i, 0⟩) g b.length).2 (ins + ((emitN ins (fun i => ⟨2, rd b i, 0⟩) g b.length).1.length : Int)) ((emitN ins (fun i => ⟨2, rd b i, 0⟩) g b.length).1 ++ [⟨1, 1, 0⟩]) a.length;rw [List.length_append, List.length_singleton] at this;unfold twoN;simp;omega
 ·have := mulN_len ins a b g b.length;have h5 : b.length * (6 * a.length + 1) ≤ 4 * (6 * 4 + 1) := Nat.mul_le_mul (by omega) (by omega);unfold twoN;simp;omega
 ·have := emitN_len ins (fun i => ⟨3, rd a i, rd b i⟩) g a.length;unfold twoN;simp;omega
 ·have := emitN_len ins (fun i => ⟨4, rd a i, rd b i⟩) g a.length;unfold twoN;simp;omega
 ·have := emitN_len ins (fun i => ⟨5, rd a i, rd b i⟩) g a.length;unfold twoN;simp;omega
 ·have := eqN_len ins a b g a.length;unfold twoN;simp;omega
 ·have := lessN_len ins a b g a.length;unfold twoN;simp;omega
 ·have := lessN_len ins (a.set (a.length - 1) (ins + (g.length : Int))) (b.set (a.length - 1) (ins + (g.length : Int) + 1)) (g ++ [⟨2, rd a ((a.length - 1 : Nat) : Int), 0⟩] ++ [⟨2, rd b ((a.length - 1 : Nat) : Int), 0⟩]) a.length;rw [List.length_append, List.length_append, List.length_singleton, List.length_singleton] at this;have e : twoN ins 16 a b g = ((lessN ins (a.set (a.length - 1) (ins + (g.length : Int))) (b.set (a.length - 1) (ins + (g.length : Int) + 1)) (g ++ [⟨2, rd a ((a.length - 1 : Nat) : Int), 0⟩] ++ [⟨2, rd b ((a.length - 1 : Nat) : Int), 0⟩]) a.length).1, [(lessN ins (a.set (a.length - 1) (ins + (g.length : Int))) (b.set (a.length - 1) (ins + (g.length : Int) + 1)) (g ++ [⟨2, rd a ((a.length - 1 : Nat) : Int), 0⟩] ++ [⟨2, rd b ((a.length - 1 : Nat) : Int), 0⟩]) a.length).2]) := by
   unfold twoN;simp
  rw [e];simp only [List.length_singleton];exact ⟨by omega, by simp⟩
 ·have := emitN_len ins (fun i => ⟨3, rd a i, rd b i⟩) g a.length;unfold twoN;simp;omega
 ·have := emitN_len ins (fun i => ⟨4, rd a i, rd b i⟩) g a.length;unfold twoN;simp;omega
def kl (wd : Nat) (k : Int) : Nat := if k = 1 then wd else 1
theorem stepK_is {w v m p r : Int} {st st' : List Int} {x : Nd} (h : stepK w v st x = some st') (hn : need x.f0 = (m, p, r)) :
  leafB w v x = true ∧ m ≤ st.length ∧ (∀ y ∈ st.take m.toNat, y = p) ∧ st' = r :: st.drop m.toNat := by
 unfold stepK at h;rw [hn] at h;dsimp only at h;split at h
 ·cases h
 split at h
 ·rename_i hl
  split at h
  ·cases h
  ·rename_i hm
   split at h
   ·rename_i ha
    injection h with h;exact ⟨hl, by omega, fun y hy => by simpa using List.all_eq_true.mp ha y hy, h.symm⟩
   ·cases h
 ·cases h
theorem gstep_ok (wd : Nat) (v ins : Int) (hw1 : 1 ≤ wd) (hw4 : wd ≤ 4) (hv : v ≤ 4) (x : Nd) (st st' : List Int) (rv : List (List Int)) (g : List S75)
  (h : stepK wd v st x = some st') (hp : notPlain x = false) (hx0 : 0 ≤ x.f1) (hx1 : x.f1 < 18446744073709551616) (hl : rv.map List.length = st.map (kl wd)) (hg : g.length ≤ 700000) (hrv : rv.length ≤ 1000) :
  ∃ g' rv', gstep wd ins x g rv.reverse = some (g', List.reverse rv') ∧ rv'.map List.length = st'.map (kl wd) ∧ g'.length ≤ g.length + 110 ∧ rv'.length ≤ rv.length + 1 := by
 have h0 : (need x.f0).2.2 ≠ 0 := by intro h0; unfold stepK at h; rw [if_pos h0] at h; cases h
 have hnp : x.f0 ≠ 6 ∧ x.f0 ≠ 7 ∧ x.f0 ≠ 11 ∧ x.f0 ≠ 12 := by
  unfold notPlain at hp;simp only [decide_eq_false_iff_not] at hp;omega
 have hr : x.f0 = 1 ∨ x.f0 = 2 ∨ x.f0 = 20 ∨ (x.f0 = 13 ∨ x.f0 = 19) ∨ (x.f0 = 3 ∨ x.f0 = 4 ∨ x.f0 = 5 ∨ x.f0 = 8 ∨ x.f0 = 9 ∨ x.f0 = 10 ∨ x.f0 = 14 ∨ x.f0 = 15 ∨ x.f0 = 16 ∨ x.f0 = 17 ∨ x.f0 = 18) := by
  unfold need at h0;split at h0
  ·omega
  split at h0
  ·omega
  split at h0
  ·omega
  split at h0
  ·omega
  split at h0
  ·omega
  split at h0
  ·omega
  split at h0
  ·omega
  ·exact absurd rfl h0
 have hlim : ¬ (700000 < g.length ∨ 1000 < rv.reverse.length) := by rw [List.length_reverse]; omega
 rcases hr with ho | ho | ho | ho | ho
 ·have hn : need x.f0 = (0, 1, 1) := by rw [ho]; unfold need; simp
  obtain ⟨_, _, _, rfl⟩ := stepK_is h hn;refine ⟨(emitN ins (fun i => ⟨1, bitv x.f1 i, 0⟩) g wd).1, (emitN ins (fun i => ⟨1, bitv x.f1 i, 0⟩) g wd).2 :: rv, ?_, ?_, ?_, by simp⟩
  ·unfold gstep; rw [if_neg hlim, if_neg (by omega), if_pos ho, if_pos ⟨hx0, hx1⟩, List.reverse_cons]
  ·have := emitN_len ins (fun i => ⟨1, bitv x.f1 i, 0⟩) g wd;simp only [List.map_cons, hl, this.2, kl, if_true];simp
  ·have := emitN_len ins (fun i => ⟨1, bitv x.f1 i, 0⟩) g wd;omega
 ·have hn : need x.f0 = (0, 1, 1) := by rw [ho]; unfold need; simp
  obtain ⟨hlf, _, _, rfl⟩ := stepK_is h hn;have hlt : x.f1 < v := by
   unfold leafB at hlf;rw [if_neg (by omega), if_pos ho] at hlf;simpa using hlf
  refine ⟨g, varW wd x.f1 wd :: rv, ?_, ?_, by omega, by simp⟩
  ·unfold gstep; rw [if_neg hlim, if_pos ho, if_pos ⟨hx0, by omega⟩, List.reverse_cons]
  ·simp only [List.map_cons, hl, varW_len, kl, if_true];simp
 ·have hn : need x.f0 = (0, 2, 2) := by rw [ho]; unfold need; simp
  obtain ⟨_, _, _, rfl⟩ := stepK_is h hn;refine ⟨(emitN ins (fun i => ⟨1, bitv x.f1 i, 0⟩) g 1).1, (emitN ins (fun i => ⟨1, bitv x.f1 i, 0⟩) g 1).2 :: rv, ?_, ?_, ?_, by simp⟩
  ·unfold gstep; rw [if_neg hlim, if_neg (by omega), if_neg (by omega), if_pos ho, if_pos ⟨hx0, hx1⟩, List.reverse_cons]
  ·have := emitN_len ins (fun i => ⟨1, bitv x.f1 i, 0⟩) g 1;simp only [List.map_cons, hl, this.2, kl];simp
  ·have := emitN_len ins (fun i => ⟨1, bitv x.f1 i, 0⟩) g 1;omega
 ·have hn : ∃ p, need x.f0 = (1, p, p) := by
   rcases ho with ho | ho <;> rw [ho]
   ·exact ⟨1, by unfold need; simp⟩
   ·exact ⟨2, by unfold need; simp⟩
  obtain ⟨p, hn⟩ := hn;obtain ⟨_, hm, ha, rfl⟩ := stepK_is h hn;cases st with
  | nil => simp at hm
  | cons y s =>
   obtain rfl : y = p := ha y (by simp);cases rv with
   | nil => simp at hl
   | cons a rr =>
    simp only [List.map_cons, List.cons.injEq] at hl;have hal : a.length ≤ 4 := (by rw [hl.1]; unfold kl; split <;> omega);refine ⟨(emitN ins (fun i => ⟨2, rd a i, 0⟩) g a.length).1, (emitN ins (fun i => ⟨2, rd a i, 0⟩) g a.length).2 :: rr, ?_, ?_, ?_, by simp⟩
    ·unfold gstep; rw [if_neg hlim, if_neg (by omega), if_neg (by omega), if_neg (by omega), if_pos ho, List.reverse_reverse];dsimp only;rw [if_pos hal, List.reverse_cons]
    ·have := emitN_len ins (fun i => ⟨2, rd a i, 0⟩) g a.length;simp only [List.map_cons, hl.2];rw [this.2, hl.1];rfl
    ·have := emitN_len ins (fun i => ⟨2, rd a i, 0⟩) g a.length;omega
 ·have htwo : twoOp x.f0 = true := by
   rcases ho with ho | ho | ho | ho | ho | ho | ho | ho | ho | ho | ho <;> rw [ho] <;> rfl
  have hn : ∃ p r, need x.f0 = (2, p, r) ∧ (if x.f0 = 14 ∨ x.f0 = 15 ∨ x.f0 = 16 then 1 else kl wd p) = kl wd r := by
   rcases ho with ho | ho | ho | ho | ho | ho | ho | ho | ho | ho | ho <;> rw [ho]
   ·exact ⟨1, 1, by unfold need; simp, by simp⟩
   ·exact ⟨1, 1, by unfold need; simp, by simp⟩
   ·exact ⟨1, 1, by unfold need; simp, by simp⟩
   ·exact ⟨1, 1, by unfold need; simp, by simp⟩
   ·exact ⟨1, 1, by unfold need; simp, by simp⟩
   ·exact ⟨1, 1, by unfold need; simp, by simp⟩
   ·exact ⟨1, 2, by unfold need; simp, by simp [kl]⟩
   ·exact ⟨1, 2, by unfold need; simp, by simp [kl]⟩
   ·exact ⟨1, 2, by unfold need; simp, by simp [kl]⟩
   ·exact ⟨2, 2, by unfold need; simp, by simp⟩
   ·exact ⟨2, 2, by unfold need; simp, by simp⟩
  obtain ⟨p, r, hn, hpr⟩ := hn;obtain ⟨_, hm, ha, rfl⟩ := stepK_is h hn;match st, rv, hl, hm, ha with
  | [], _, _, hm, _ => simp at hm
  | [_], _, _, hm, _ => simp at hm
  | y :: z :: s, [], hl, _, _ => simp at hl
  | y :: z :: s, [_], hl, _, _ => simp at hl
  | y :: z :: s, b :: a :: rr, hl, _, ha =>
   obtain rfl : y = p := ha y (by simp);obtain rfl : z = y := ha z (by simp);simp only [List.map_cons, List.cons.injEq] at hl;have hbl : b.length = a.length := (by rw [hl.1, hl.2.1]);have hal : 1 ≤ a.length ∧ a.length ≤ 4 := (by rw [hl.2.1]; unfold kl; split <;> omega);have ht := twoN_len ins x.f0 a b g htwo hbl hal.1 hal.2;have hne := twoOp_ne htwo;refine ⟨(twoN ins x.f0 a b g).1, (twoN ins x.f0 a b g).2 :: rr, ?_, ?_, ht.1, by simp⟩
   ·unfold gstep; rw [if_neg hlim, if_neg hne.2.1, if_neg hne.1, if_neg hne.2.2.2.2, if_neg (by omega), if_pos htwo, List.reverse_reverse];dsimp only;rw [if_pos ⟨hbl, hal⟩, List.reverse_cons]
   ·simp only [List.map_cons, ht.2, hl.2.1, hl.2.2, hpr];rfl
theorem gfold_ok (wd : Nat) (v ins : Int) (hw1 : 1 ≤ wd) (hw4 : wd ≤ 4) (hv : v ≤ 4) (t : List Nd) : ∀ (st st' : List Int) (rv : List (List Int)) (g : List S75),
  runK wd v t st = some st' → t.any notPlain = false → okNodes t → rv.map List.length = st.map (kl wd) → g.length + 110 * t.length ≤ 700000 → rv.length + t.length ≤ 1000 →
  ∃ g' rv', gfold wd ins t (g, rv.reverse) = some (g', List.reverse rv') ∧ rv'.map List.length = st'.map (kl wd) ∧ g'.length ≤ g.length + 110 * t.length := by
 induction t with
 | nil =>
  intro st st' rv g h _ _ hl _ _;injection h with h;subst h;exact ⟨g, rv, rfl, hl, by simp⟩
 | cons x t ih =>
  intro st st' rv g h hp hok hl hg hr;simp only [List.length_cons] at hg hr;obtain ⟨s1, h1, h2⟩ := Option.bind_eq_some_iff.mp h;rw [List.any_cons, Bool.or_eq_false_iff] at hp;have hx := hok x (by simp);obtain ⟨g1, rv1, hs, hl1, hg1, hr1⟩ := gstep_ok wd v ins hw1 hw4 hv x st s1 rv g h1 hp.1 hx.1 hx.2 hl (by omega) (by omega);obtain ⟨g2, rv2, hf, hl2, hg2⟩ := ih s1 st' rv1 g1 h2 hp.2 (fun y hy => hok y (by simp [hy])) hl1 (by omega) (by omega);refine ⟨g2, rv2, ?_, hl2, by simp only [List.length_cons]; omega⟩;show (gstep wd ins x g rv.reverse).bind (gfold wd ins t) = _;rw [hs];exact hf
theorem gatesOf_ok (w v : Int) (t : List Nd) (hok : okNodes t) (hk : kindT w v t > 0) (hp : t.any notPlain = false) (hw : 1 ≤ w ∧ w ≤ 4) : ∃ g o, gatesOf w v t = some (w * v, g, o) ∧ g.length ≤ 6000 ∧ o.length ≤ 1000 := by
 unfold kindT at hk;split at hk
 ·rename_i hc
  obtain ⟨wd, rfl⟩ : ∃ wd : Nat, w = wd := ⟨w.toNat, by omega⟩;cases hr : runK wd v t [] with
  | none => rw [hr] at hk; exact absurd hk (by decide)
  | some st =>
   rw [hr] at hk;match st, hk with
   | [], hk => exact absurd hk (by decide)
   | _ :: _ :: _, hk => exact absurd hk (by simp [top])
   | [k], _ =>
    obtain ⟨g, rv, hf, hl, hg⟩ := gfold_ok wd v (wd * v) (by omega) (by omega) (by omega) t [] [k] [] [] hr hp hok rfl (by simp; omega) (by simp; omega);match rv, hl with
    | [], hl => simp at hl
    | _ :: _ :: _, hl => simp at hl
    | [o], hl =>
     simp only [List.map_cons, List.map_nil, List.cons.injEq, and_true] at hl;have hol : o.length ≤ 1000 := (by rw [hl]; unfold kl; split <;> omega);refine ⟨g, o, ?_, by simp at hg; omega, hol⟩;unfold gatesOf;rw [if_pos ⟨by omega, by omega, by omega, by omega, by omega⟩, Int.toNat_natCast, show (([] : List S75), ([] : List (List Int))) = ([], List.reverse []) from rfl, hf];simp only [Option.bind_some, List.reverse_cons, List.reverse_nil, List.nil_append, if_pos hol]
 ·exact absurd hk (by decide)
theorem isPlainSpec_loop (t : List Nd) (ht : t.length ≤ 48) (d : Nat) : ∀ (i k : Nat), i + d = t.length → d < k →
  spec_IsPlain.l0 k t (t.length : Int) (i : Int) = some (!((t.drop i).any notPlain), true) := by
 induction d with
 | zero =>
  intro i k hi hk;obtain ⟨k, rfl⟩ : ∃ m, k = m + 1 := ⟨k - 1, by omega⟩;obtain rfl : i = t.length := by omega
  simp only [spec_IsPlain.l0];rw [if_neg (by omega), List.drop_length];rfl
 | succ d ih =>
  intro i k hi hk;obtain ⟨k, rfl⟩ : ∃ m, k = m + 1 := ⟨k - 1, by omega⟩;have hlt : i < t.length := by omega
  have e1 : wrap64 ((i : Int) + 1) = ((i + 1 : Nat) : Int) := by rw [wrap64_id _ (by omega) (by omega)]; omega
  have hg := rdNode_at hlt;simp only [spec_IsPlain.l0];rw [if_pos (by omega), if_pos (by omega), if_pos (by omega), hg, e1, List.drop_eq_getElem_cons hlt, List.any_cons];by_cases h6 : t[i].f0 = 6
  ·rw [if_pos h6, show notPlain t[i] = true from decide_eq_true (by omega)]; rfl
  rw [if_neg h6];by_cases h7 : t[i].f0 = 7
  ·rw [if_pos h7, show notPlain t[i] = true from decide_eq_true (by omega)]; rfl
  rw [if_neg h7];by_cases h11 : t[i].f0 = 11
  ·rw [if_pos h11, show notPlain t[i] = true from decide_eq_true (by omega)]; rfl
  rw [if_neg h11];by_cases h12 : t[i].f0 = 12
  ·rw [if_pos h12, show notPlain t[i] = true from decide_eq_true (by omega)]; rfl
  rw [if_neg h12, show notPlain t[i] = false from decide_eq_false (by omega), Bool.false_or];exact ih (i + 1) k (by omega) (by omega)
def gatesR (w v : Int) (t : List Nd) : Int × List S75 × List Int × Bool :=
 if (1 ≤ w ∧ w ≤ 4) ∧ kindT w v t > 0 ∧ t.any notPlain = false then
  match gatesOf w v t with
  | some s => if okCirc s.1 s.2.1 s.2.2 = true then (s.1, s.2.1, s.2.2, true) else (0, [], [], false)
  | none => (0, [], [], false)
 else (0, [], [], false)
theorem kindT_48 (w v : Int) (t : List Nd) (h : kindT w v t > 0) : t.length ≤ 48 := by
 unfold kindT at h;split at h
 ·omega
 ·exact absurd h (by decide)
theorem gatesFor_impl (w v : Int) (t : List Nd) (hok : okNodes t) (k : Nat) (hk : 1000 < k) : impl_GatesFor.f k w v t = some (gatesR w v t) := by
 obtain ⟨k, rfl⟩ : ∃ m, k = m + 1 := ⟨k - 1, by omega⟩;unfold impl_GatesFor.f gatesR;have hl : impl_isLaid.f w = some (decide (1 ≤ w ∧ w ≤ 4)) := by
  unfold impl_isLaid.f;by_cases h1 : 1 ≤ w
  ·rw [if_pos h1]; simp [h1]
  ·rw [if_neg h1, decide_eq_false (by omega)]
 rw [hl];simp only [Option.bind_some, decide_eq_true_eq];by_cases hw : 1 ≤ w ∧ w ≤ 4
 ·rw [if_pos hw, goodTerm_impl (k + 1) w v t hok (by omega)];simp only [Option.bind_some, decide_eq_true_eq];by_cases hg : kindT w v t > 0
  ·rw [if_pos hg];have hp : impl_isPlain.f t = some (!(t.any notPlain)) := rfl;rw [hp];simp only [Option.bind_some, Bool.not_not, impl_GatesFor.j0];by_cases hpl : t.any notPlain = true
   ·rw [if_pos hpl, if_neg (by rw [hpl]; simp)]
   ·have hpf : t.any notPlain = false := (by simpa using hpl);obtain ⟨g, o, he, _, _⟩ := gatesOf_ok w v t hok hg hpf hw;rw [if_neg hpl, if_pos ⟨hw, hg, hpf⟩, he, show impl_gatesFor.f w v t = some (w * v, g, o) from he];simp only [Option.bind_some];rw [implCirc_val _ _ _ _ (by omega)];simp only [Option.bind_some];split <;> rfl
  ·rw [if_neg hg, if_neg (by simp [hg])];rfl
 ·rw [if_neg hw, if_neg (by simp [hw])];rfl
theorem gatesFor_spec (w v : Int) (t : List Nd) (hok : okNodes t) (k : Nat) (hk : 1000 < k) : spec_GatesFor.f k w v t = some (gatesR w v t) := by
 obtain ⟨k, rfl⟩ : ∃ m, k = m + 1 := ⟨k - 1, by omega⟩;unfold spec_GatesFor.f spec_IsPlain.f gatesR;rw [goodTerm_spec (k + 1) w v t hok (by omega)];simp only [Option.bind_some, decide_eq_true_eq];by_cases hg : kindT w v t > 0
 ·have h48 := kindT_48 w v t hg;have hs := isPlainSpec_loop t h48 t.length 0 (k + 1) (by omega) (by omega);rw [Int.ofNat_zero] at hs;rw [if_pos hg, hs, List.drop_zero];simp only [Option.bind_some, if_true, Bool.not_eq_true'];by_cases hpl : t.any notPlain = false
  ·have hl : spec_l5Wide.f w = some (decide (1 ≤ w ∧ w ≤ 4)) := (by unfold spec_l5Wide.f; rw [l1In_val]; rfl);rw [if_pos hpl, hl];simp only [Option.bind_some, spec_GatesFor.j0];by_cases hw : 1 ≤ w ∧ w ≤ 4
   ·obtain ⟨g, o, he, _, _⟩ := gatesOf_ok w v t hok hg hpl hw;rw [if_neg (by simp [hw]), if_pos ⟨hw, hg, hpl⟩, he, show spec_l5Gates.f w v t = some (w * v, g, o) from he];simp only [Option.bind_some];rw [specCirc_val _ _ _ _ (by omega)];simp only [Option.bind_some];split <;> rfl
   ·rw [if_pos (by rw [decide_eq_false hw]; rfl), if_neg (by simp [hw])]
  ·rw [if_neg hpl, if_neg (by simp [hpl])];rfl
 ·rw [if_neg hg];simp only [Option.bind_some];rw [if_neg (by simp), if_neg (by simp [hg])];rfl
theorem gatesR_ok (w v : Int) (t : List Nd) (h : (gatesR w v t).2.2.2 = true) : okCirc (gatesR w v t).1 (gatesR w v t).2.1 (gatesR w v t).2.2.1 = true := by
 unfold gatesR at h ⊢;split at h
 ·rename_i hc
  rw [if_pos hc];split at h
  ·rename_i s hs
   split at h
   ·rename_i ho; rw [if_pos ho]; exact ho
   ·cases h
  ·cases h
 ·cases h
theorem rdBool_at {t : List Bool} {i : Nat} (h : i < t.length) : rdOf false t (i : Int) = t[i] := by
 unfold rdOf;rw [Int.toNat_natCast, List.getD_eq_getElem?_getD, List.getElem?_eq_getElem h]; rfl
theorem rdUint64_at {t : List Int} {i : Nat} (h : i < t.length) : rd t (i : Int) = t[i] := by
 unfold rd;rw [Int.toNat_natCast, List.getD_eq_getElem?_getD, List.getElem?_eq_getElem h]; rfl
theorem eqUint64_loop (l : List Int) (hl : l.length ≤ 1048576) (d : Nat) : ∀ (i : Nat) (k : Nat), i + d = l.length → d < k → laws_eqUint64S.l0 k l l (i : Int) = some true := by
 induction d with
 | zero =>
  intro i k hi hk;obtain ⟨k, rfl⟩ : ∃ m, k = m + 1 := ⟨k - 1, by omega⟩;simp only [laws_eqUint64S.l0];rw [if_neg (by omega)]
 | succ d ih =>
  intro i k hi hk;obtain ⟨k, rfl⟩ : ∃ m, k = m + 1 := ⟨k - 1, by omega⟩;have e1 : wrap64 ((i : Int) + 1) = ((i + 1 : Nat) : Int) := by rw [wrap64_id _ (by omega) (by omega)]; omega
  simp only [laws_eqUint64S.l0];rewrite [if_pos (by omega), if_pos (by omega), if_pos (by omega)];rewrite [if_pos trivial];rewrite [e1];exact ih (i + 1) k (by omega) (by omega)
theorem eqUint64_val (k : Nat) (l : List Int) (hl : l.length ≤ 1048576) (hk : l.length < k) : laws_eqUint64S.f k l l = some true := by
 unfold laws_eqUint64S.f;rw [if_pos rfl];exact eqUint64_loop l hl l.length 0 k (by omega) hk
def mkUint64 (m : Int) : Nat → List Int
 | 0 => []
 | n + 1 => m :: mkUint64 (m + 1) n
theorem mkUint64_len (n : Nat) : ∀ m, (mkUint64 m n).length = n := by
 induction n with
 | zero => intro m; rfl
 | succ n ih => intro m; simp [mkUint64, ih]
theorem mkUint64_snoc (n : Nat) : ∀ m, mkUint64 m (n + 1) = mkUint64 m n ++ [m + 1 * (n : Int)] := by
 induction n with
 | zero => intro m; simp [mkUint64]
 | succ n ih =>
  intro m;rw [mkUint64, ih (m + 1), mkUint64, List.cons_append];have : m + 1 + 1 * (n : Int) = m + 1 * ((n + 1 : Nat) : Int) := by omega
  rw [this]
theorem mkUint64_at (m : Int) (n i : Nat) (h : i < n) : rd (mkUint64 m n) (i : Int) = m + 1 * (i : Int) := by
 induction n generalizing m i with
 | zero => omega
 | succ n ih =>
  cases i with
  | zero => simp [rd, mkUint64]
  | succ i =>
   have := ih (m + 1) i (by omega);unfold rd at this ⊢;rw [Int.toNat_natCast] at this ⊢;rw [mkUint64, List.getD_cons_succ, this];have e : m + 1 + 1 * (i : Int) = m + 1 * ((i + 1 : Nat) : Int) := (by omega);rw [e]
theorem markUint64_loop (b : Int) (hb : 0 ≤ b) (hb2 : b ≤ 100000000) (l : List Int) (hl : l.length ≤ 1048576) (d : Nat) : ∀ (i k : Nat), i + d = l.length → d < k →
  laws_markUint64S.l0 k (mkUint64 b i ++ l.drop i) (b + 1 * (i : Int)) (i : Int) = some (b + 1 * (l.length : Int), mkUint64 b l.length) := by
 induction d with
 | zero =>
  intro i k hi hk;obtain ⟨k, rfl⟩ : ∃ m, k = m + 1 := ⟨k - 1, by omega⟩;obtain rfl : i = l.length := by omega
  simp only [laws_markUint64S.l0];rw [if_neg (by simp [mkUint64_len]), List.drop_eq_nil_of_le (by omega), List.append_nil]
 | succ d ih =>
  intro i k hi hk;obtain ⟨k, rfl⟩ : ∃ m, k = m + 1 := ⟨k - 1, by omega⟩;have hit : i < l.length := by omega
  have e1 : wrap64 ((i : Int) + 1) = ((i + 1 : Nat) : Int) := by rw [wrap64_id _ (by omega) (by omega)]; omega
  have q0 : wrap64 (b + 1 * (i : Int) + 1) = b + 1 * ((i + 1 : Nat) : Int) := by rw [wrap64_id _ (by omega) (by omega)]; omega
  have w0 : IntKind.u64.wrap (b + 1 * (i : Int)) = b + 1 * (i : Int) := u64_id _ (by omega) (by omega);have hd : l.drop i = l[i] :: l.drop (i + 1) := List.drop_eq_getElem_cons hit;have hset : ∀ y z : Int, (mkUint64 b i ++ y :: l.drop (i + 1)).set i z = mkUint64 b i ++ z :: l.drop (i + 1) := fun y z => set_mid _ _ _ _ _ (by rw [mkUint64_len]);simp only [laws_markUint64S.l0];rewrite [if_pos (by simp [mkUint64_len]; omega), if_pos (by omega)];(try simp only [Option.bind_some])
  rewrite [hd, Int.toNat_natCast, hset, e1, q0, w0];have := ih (i + 1) k (by omega) (by omega);rw [mkUint64_snoc, List.append_assoc] at this;exact this
theorem markUint64_val (k : Nat) (b : Int) (hb : 0 ≤ b) (hb2 : b ≤ 100000000) (l : List Int) (hl : l.length ≤ 1048576) (hk : l.length < k) : laws_markUint64S.f k l b = some (b + 1 * (l.length : Int), mkUint64 b l.length) := by
 have := markUint64_loop b hb hb2 l hl l.length 0 k (by omega) hk;unfold laws_markUint64S.f;simpa [mkUint64] using this
theorem heldUint64_loop (b : Int) (hb : 0 ≤ b) (hb2 : b ≤ 100000000) (n : Nat) (hn : n ≤ 1048576) (d : Nat) : ∀ (i k : Nat), i + d = n → d < k →
  laws_heldUint64S.l0 k (mkUint64 b n) (b + 1 * (i : Int)) (i : Int) = some (b + 1 * (n : Int)) := by
 induction d with
 | zero =>
  intro i k hi hk;obtain ⟨k, rfl⟩ : ∃ m, k = m + 1 := ⟨k - 1, by omega⟩;obtain rfl : i = n := by omega
  simp only [laws_heldUint64S.l0];rw [if_neg (by rw [mkUint64_len]; omega)]
 | succ d ih =>
  intro i k hi hk;obtain ⟨k, rfl⟩ : ∃ m, k = m + 1 := ⟨k - 1, by omega⟩;have e1 : wrap64 ((i : Int) + 1) = ((i + 1 : Nat) : Int) := by rw [wrap64_id _ (by omega) (by omega)]; omega
  have q0 : wrap64 (b + 1 * (i : Int) + 1) = b + 1 * ((i + 1 : Nat) : Int) := by rw [wrap64_id _ (by omega) (by omega)]; omega
  have w0 : IntKind.u64.wrap (b + 1 * (i : Int)) = b + 1 * (i : Int) := u64_id _ (by omega) (by omega);simp only [laws_heldUint64S.l0];rewrite [if_pos (by rw [mkUint64_len]; omega), if_pos (by omega), mkUint64_at b n i (by omega), q0, w0];rewrite [if_pos (by rfl), e1];exact ih (i + 1) k (by omega) (by omega)
theorem heldUint64_val (k : Nat) (b : Int) (hb : 0 ≤ b) (hb2 : b ≤ 100000000) (n : Nat) (hn : n ≤ 1048576) (hk : n < k) : laws_heldUint64S.f k (mkUint64 b n) b = some (b + 1 * (n : Int)) := by
 have := heldUint64_loop b hb hb2 n hn n 0 k (by omega) hk;unfold laws_heldUint64S.f;simpa using this
theorem rdL_at {α : Type} {t : List (List α)} {i : Nat} (h : i < t.length) : t.getD ((i : Int)).toNat [] = t[i] := by
 rw [Int.toNat_natCast, List.getD_eq_getElem?_getD, List.getElem?_eq_getElem h]; rfl
theorem rdIS_at {t : List (List Int)} {i : Nat} (h : i < t.length) : rd_L6 t (i : Int) = t[i] := rdL_at h
def litB (n x : Int) : Bool := decide (x ≠ 0 ∧ -n ≤ x ∧ x ≤ n)
def clauseB (n : Int) (l : List Int) : Bool := decide (l.length ≤ 8) && l.all (litB n)
def cnfB (n : Int) (l : List (List Int)) : Bool := decide (0 ≤ n ∧ n ≤ 400 ∧ l.length ≤ 1400) && l.all (clauseB n)
theorem isLiteral_val (x n : Int) (h0 : 0 ≤ n) (h1 : n ≤ 400) : impl_isLiteral.f x n = some (litB n x) := by
 unfold impl_isLiteral.f litB;rewrite [wrap64_id _ (by omega) (by omega)];by_cases h : x = 0
 ·rewrite [if_pos h, decide_eq_false (by omega)]; rfl
 ·rewrite [if_neg h];by_cases h2 : x ≥ -n
  ·rewrite [if_pos h2]; congr 1; exact decide_eq_decide.mpr (by omega)
  ·rewrite [if_neg h2, decide_eq_false (by omega)]; rfl
theorem clauseAny_val (n : Int) (h0 : 0 ≤ n) (h1 : n ≤ 400) (l : List Int) : impl_isClause_any.f l n = some (!(l.all (litB n))) := by
 unfold impl_isClause_any.f;induction l with
 | nil => rfl
 | cons x t ih =>
  have hp : impl_isClause_any.p n x = some (!(litB n x)) := by unfold impl_isClause_any.p; rw [isLiteral_val x n h0 h1]; rfl
  unfold impl_isClause_any.any;rewrite [hp];simp only [Option.bind_some];rewrite [List.all_cons];cases hb : litB n x with
  | false => rfl
  | true => rewrite [if_neg (by decide), ih]; rfl
theorem isClause_val (n : Int) (h0 : 0 ≤ n) (h1 : n ≤ 400) (l : List Int) : impl_isClause.f l n = some (clauseB n l) := by
 unfold impl_isClause.f clauseB;by_cases h : (l.length : Int) ≤ 8
 ·rewrite [if_pos h, clauseAny_val n h0 h1, decide_eq_true (show l.length ≤ 8 by omega)];simp only [Option.bind_some, Bool.not_not, Bool.true_and]
 ·rewrite [if_neg h, decide_eq_false (show ¬ l.length ≤ 8 by omega)]; rfl
theorem implCnf_val (n : Int) (l : List (List Int)) : impl_GoodCnf.f n l = some (cnfB n l) := by
 unfold impl_GoodCnf.f cnfB;by_cases h0 : n < 0
 ·rewrite [if_pos h0, decide_eq_false (by omega)]; rfl
 ·rewrite [if_neg h0];by_cases h1 : n > 400
  ·rewrite [if_pos h1, decide_eq_false (by omega)]; rfl
  ·rewrite [if_neg h1];by_cases h2 : (l.length : Int) > 1400
   ·rewrite [if_pos h2, decide_eq_false (by omega)]; rfl
   ·rewrite [if_neg h2, decide_eq_true (by omega)];have hany : impl_GoodCnf_any.f l n = some (!(l.all (clauseB n))) := by
     unfold impl_GoodCnf_any.f;clear h2;induction l with
     | nil => rfl
     | cons x t ih =>
      have hp : impl_GoodCnf_any.p n x = some (!(clauseB n x)) := (by unfold impl_GoodCnf_any.p; rw [isClause_val n (by omega) (by omega) x]; rfl);unfold impl_GoodCnf_any.any;rewrite [hp];simp only [Option.bind_some];rewrite [List.all_cons];cases hb : clauseB n x with
      | false => rfl
      | true => rewrite [if_neg (by decide), ih]; rfl
    rewrite [hany];simp only [Option.bind_some, Bool.not_not, Bool.true_and]
theorem l1In_lit (x n : Int) (h0 : 0 ≤ n) (h1 : n ≤ 400) : spec_l1In.f x (wrap64 (-n)) n = some (decide (-n ≤ x ∧ x ≤ n)) := by
 unfold spec_l1In.f;rewrite [wrap64_id _ (by omega) (by omega)];by_cases h : x ≥ -n
 ·rewrite [if_pos h]; congr 1; exact decide_eq_decide.mpr (by omega)
 ·rewrite [if_neg h, decide_eq_false (by omega)]; rfl
theorem specClause_loop (n : Int) (h0 : 0 ≤ n) (h1 : n ≤ 400) (l : List Int) (hl : l.length ≤ 8) (d : Nat) : ∀ (i k : Nat), i + d = l.length → d < k → spec_l6Clause.l0 k n l (l.length : Int) (i : Int) = some ((l.drop i).all (litB n)) := by
 induction d with
 | zero =>
  intro i k hi hk;obtain ⟨k, rfl⟩ : ∃ m, k = m + 1 := ⟨k - 1, by omega⟩;simp only [spec_l6Clause.l0];rewrite [if_neg (by omega), List.drop_eq_nil_of_le (by omega)]; rfl
 | succ d ih =>
  intro i k hi hk;obtain ⟨k, rfl⟩ : ∃ m, k = m + 1 := ⟨k - 1, by omega⟩;have hit : i < l.length := by omega
  have e1 : wrap64 ((i : Int) + 1) = ((i + 1 : Nat) : Int) := by rw [wrap64_id _ (by omega) (by omega)]; omega
  have hd : l.drop i = l[i] :: l.drop (i + 1) := List.drop_eq_getElem_cons hit;simp only [spec_l6Clause.l0];rewrite [if_pos (by omega), if_pos (by omega), if_pos (by omega), rdInt_at hit, hd, List.all_cons];by_cases h2 : l[i] = 0
  ·have e : litB n l[i] = false := decide_eq_false (by omega);rewrite [if_pos h2, e]; rfl
  ·rewrite [if_neg h2, l1In_lit _ n h0 h1];simp only [Option.bind_some, decide_eq_true_eq];by_cases h3 : -n ≤ l[i] ∧ l[i] ≤ n
   ·have e : litB n l[i] = true := decide_eq_true ⟨h2, h3.1, h3.2⟩;rewrite [if_pos h3, e1, ih (i + 1) k (by omega) (by omega), e]; rfl
   ·have e : litB n l[i] = false := decide_eq_false (by omega);rewrite [if_neg h3, e]; rfl
theorem specClause_val (n : Int) (h0 : 0 ≤ n) (h1 : n ≤ 400) (l : List Int) (k : Nat) (hk : 10 < k) : spec_l6Clause.f k n l = some (clauseB n l) := by
 unfold spec_l6Clause.f clauseB;by_cases h : (l.length : Int) > 8
 ·rewrite [if_pos h, decide_eq_false (show ¬ l.length ≤ 8 by omega)]; rfl
 ·have := specClause_loop n h0 h1 l (by omega) l.length 0 k (by omega) (by omega);rw [Int.natCast_zero, List.drop_zero] at this;rewrite [if_neg h, decide_eq_true (show l.length ≤ 8 by omega), this]; rfl
theorem specCnf_loop (n : Int) (h0 : 0 ≤ n) (h1 : n ≤ 400) (l : List (List Int)) (hl : l.length ≤ 1400) (d : Nat) : ∀ (i k : Nat), i + d = l.length → d + 20 < k → spec_GoodCnf.l0 k l (l.length : Int) (i : Int) n l = some ((l.drop i).all (clauseB n)) := by
 induction d with
 | zero =>
  intro i k hi hk;obtain ⟨k, rfl⟩ : ∃ m, k = m + 1 := ⟨k - 1, by omega⟩;simp only [spec_GoodCnf.l0];rewrite [if_neg (by omega), List.drop_eq_nil_of_le (by omega)]; rfl
 | succ d ih =>
  intro i k hi hk;obtain ⟨k, rfl⟩ : ∃ m, k = m + 1 := ⟨k - 1, by omega⟩;have hit : i < l.length := by omega
  have e1 : wrap64 ((i : Int) + 1) = ((i + 1 : Nat) : Int) := by rw [wrap64_id _ (by omega) (by omega)]; omega
  have hd : l.drop i = l[i] :: l.drop (i + 1) := List.drop_eq_getElem_cons hit;simp only [spec_GoodCnf.l0];rewrite [if_pos (by omega), if_pos (by omega), if_pos (by omega), rdIS_at hit, specClause_val n h0 h1 _ k (by omega), hd, List.all_cons];simp only [Option.bind_some];cases hb : clauseB n l[i] with
  | false => rewrite [if_neg (by decide)]; rfl
  | true => rewrite [if_pos rfl, e1, ih (i + 1) k (by omega) (by omega)]; rfl
theorem specCnf_val (n : Int) (l : List (List Int)) (k : Nat) (hk : 1500 < k) : spec_GoodCnf.f k n l = some (cnfB n l) := by
 obtain ⟨k, rfl⟩ : ∃ m, k = m + 1 := ⟨k - 1, by omega⟩;unfold spec_GoodCnf.f spec_l1In.f cnfB;by_cases h0 : n ≥ 0
 ·rewrite [if_pos h0];simp only [Option.bind_some, decide_eq_true_eq];by_cases h1 : n ≤ 400
  ·rewrite [if_pos h1];simp only [spec_GoodCnf.j0, decide_eq_true_eq];by_cases h2 : (l.length : Int) > 1400
   ·rewrite [if_pos h2, decide_eq_false (show ¬ (0 ≤ n ∧ n ≤ 400 ∧ l.length ≤ 1400) by omega)]; rfl
   ·have := specCnf_loop n h0 h1 l (by omega) l.length 0 k (by omega) (by omega);rw [Int.natCast_zero, List.drop_zero] at this;rewrite [if_neg h2, decide_eq_true (show 0 ≤ n ∧ n ≤ 400 ∧ l.length ≤ 1400 by omega), this]; rfl
  ·rewrite [if_neg h1, decide_eq_false (show ¬ (0 ≤ n ∧ n ≤ 400 ∧ l.length ≤ 1400) by omega)];simp only [spec_GoodCnf.j0]; rfl
 ·rewrite [if_neg h0, decide_eq_false (show ¬ (0 ≤ n ∧ n ≤ 400 ∧ l.length ≤ 1400) by omega)];simp only [Option.bind_some, spec_GoodCnf.j0]; rfl
def Der (C : List (List Int)) (G : List Int) (x : Int) : Prop :=
 ∀ S : Int → Prop, (∀ g ∈ G, S g) → (∀ c ∈ C, ∀ y ∈ c, (∀ m ∈ c, m ≠ y → S (-m)) → S y) → S x
theorem Der.giv {C : List (List Int)} {G : List Int} {x : Int} (h : x ∈ G) : Der C G x := fun _ hg _ => hg x h
theorem Der.unit {C : List (List Int)} {G : List Int} {x : Int} {c : List Int} (hc : c ∈ C) (hx : x ∈ c) (h : ∀ m ∈ c, m ≠ x → Der C G (-m)) : Der C G x :=
 fun S hg hs => hs c hc x hx fun m hm hne => h m hm hne S hg hs
def Conf (C : List (List Int)) (G : List Int) : Prop := ∃ c ∈ C, ∀ m ∈ c, Der C G (-m)
def tr (v : List Int) (x : Int) : Prop := x ≠ 0 ∧ v.getD x.natAbs 0 = foS x
def un (v : List Int) (x : Int) : Prop := v.getD x.natAbs 0 = 0
structure Vec (n : Nat) (v : List Int) : Prop where
 len : v.length = n + 1
 at0 : v.getD 0 0 = 0
 sgn : ∀ i, v.getD i 0 = 0 ∨ v.getD i 0 = 1 ∨ v.getD i 0 = -1
theorem foS_neg (x : Int) : foS (-x) = - foS x := by unfold foS; split <;> split <;> (try split) <;> (try split) <;> omega
theorem foS_two {x : Int} (h : x ≠ 0) : foS x = 1 ∨ foS x = -1 := by unfold foS; split <;> (try split) <;> omega
theorem tr_neg {v : List Int} {x : Int} (h : tr v x) (h2 : tr v (-x)) : False := by
 have e := h2.2;rw [Int.natAbs_neg, h.2, foS_neg] at e;have := foS_two h.1;omega
theorem tr_un {v : List Int} {x : Int} (h : tr v x) (h2 : un v x) : False := by
 have e := h.2;unfold un at h2;have := foS_two h.1;omega
theorem un_neg {v : List Int} {x : Int} : un v (-x) ↔ un v x := by unfold un; rw [Int.natAbs_neg]
theorem tri {n : Nat} {v : List Int} (h : Vec n v) {x : Int} (hx : x ≠ 0) : tr v x ∨ tr v (-x) ∨ un v x := by
 unfold tr un;rw [Int.natAbs_neg, foS_neg];have := h.sgn x.natAbs;have := foS_two hx;have : -x ≠ 0 := by omega
 by_cases h0 : v.getD x.natAbs 0 = 0
 ·exact .inr (.inr h0)
 ·by_cases h1 : v.getD x.natAbs 0 = foS x
  ·exact .inl ⟨hx, h1⟩
  ·exact .inr (.inl ⟨this, by omega⟩)
theorem getD_set_ (v : List Int) (i j : Nat) (a : Int) (hi : i < v.length) : (v.set i a).getD j 0 = if i = j then a else v.getD j 0 := by
 rw [List.getD_eq_getElem?_getD, List.getElem?_set, List.getD_eq_getElem?_getD];by_cases h : i = j
 ·rw [if_pos h, if_pos h, if_pos (by omega)]; rfl
 ·rw [if_neg h, if_neg h]
def setL (v : List Int) (x : Int) : List Int := v.set x.natAbs (foS x)
theorem tr_set {n : Nat} {v : List Int} (hv : Vec n v) {x : Int} (hx : x ≠ 0) (hn : x.natAbs ≤ n) (hu : un v x) (y : Int) : tr (setL v x) y ↔ tr v y ∨ y = x := by
 unfold tr setL;rw [getD_set_ _ _ _ _ (by rw [hv.len]; omega)];unfold un at hu;have h2 := foS_two hx;constructor
 ·rintro ⟨h0, h⟩;by_cases e : x.natAbs = y.natAbs
  ·rw [if_pos e] at h;rcases Int.natAbs_eq_natAbs_iff.1 e with e | e
   ·exact .inr e.symm
   ·exfalso;rw [e, foS_neg] at h;have := foS_two h0;omega
  ·rw [if_neg e] at h;exact .inl ⟨h0, h⟩
 ·rintro (⟨h0, h⟩ | rfl)
  ·refine ⟨h0, ?_⟩;by_cases e : x.natAbs = y.natAbs
   ·exfalso;rw [← e, hu] at h;have := foS_two h0;omega
   ·rw [if_neg e]; exact h
  ·exact ⟨hx, if_pos rfl⟩
theorem un_set {n : Nat} {v : List Int} (hv : Vec n v) {x : Int} (hn : x.natAbs ≤ n) {y : Int} (h : un v y) (hy : y.natAbs ≠ x.natAbs) : un (setL v x) y := by
 unfold un setL;rw [getD_set_ _ _ _ _ (by rw [hv.len]; omega), if_neg (Ne.symm hy)];exact h
theorem vec_set {n : Nat} {v : List Int} (hv : Vec n v) {x : Int} (hx : x ≠ 0) (hn : x.natAbs ≤ n) : Vec n (setL v x) := by
 refine ⟨by unfold setL; rw [List.length_set, hv.len], ?_, fun i => ?_⟩
 ·unfold setL;rw [getD_set_ _ _ _ _ (by rw [hv.len]; omega), if_neg (by omega)];exact hv.at0
 ·unfold setL;rw [getD_set_ _ _ _ _ (by rw [hv.len]; omega)];split
  ·have := foS_two hx; omega
  ·exact hv.sgn i
theorem cz_setL {n : Nat} {v : List Int} (hv : Vec n v) {x : Int} (hx : x ≠ 0) (hn : x.natAbs ≤ n) (hu : un v x) : cz (setL v x) + 1 = cz v := by
 have hl : x.natAbs < v.length := by rw [hv.len]; omega
 refine cz_set v x.natAbs (foS x) hl ?_ (foS_ne hx);unfold un at hu;rw [List.getD_eq_getElem?_getD, List.getElem?_eq_getElem hl] at hu;exact hu
def okc (v : List Int) (c : List Int) : Prop := (∃ m ∈ c, tr v m) ∨ ∃ m1 ∈ c, ∃ m2 ∈ c, m1 ≠ m2 ∧ un v m1 ∧ un v m2
def Nam (n : Nat) (C : List (List Int)) : Prop := ∀ c ∈ C, ∀ m ∈ c, m ≠ 0 ∧ m.natAbs ≤ n
structure St (n : Nat) (C : List (List Int)) (G : List Int) (v o : List Int) (R : List Int → Prop) : Prop where
 vec : Vec n v
 snd : ∀ x, tr v x → Der C G x
 giv : ∀ g ∈ G, tr v g
 cls : ∀ c ∈ C, okc v c ∨ (∃ a ∈ o, -a ∈ c) ∨ R c
theorem St.weak {n : Nat} {C : List (List Int)} {G v o : List Int} {R R2 : List Int → Prop} (h : St n C G v o R) (hr : ∀ c ∈ C, R c → okc v c ∨ (∃ a ∈ o, -a ∈ c) ∨ R2 c) : St n C G v o R2 :=
 ⟨h.vec, h.snd, h.giv, fun c hc => by
  rcases h.cls c hc with e | e | e
  ·exact .inl e
  ·exact .inr (.inl e)
  ·exact hr c hc e⟩
theorem St.set {n : Nat} {C : List (List Int)} {G v o c0 : List Int} {R : List Int → Prop} {x : Int} (hC : Nam n C) (h : St n C G v o (fun c => c = c0 ∨ R c)) (hc0 : c0 ∈ C) (hx : x ∈ c0) (hu : un v x)
  (hall : ∀ m ∈ c0, m ≠ x → tr v (-m)) : St n C G (setL v x) (o ++ [x]) R := by
 obtain ⟨hx0, hxn⟩ := hC c0 hc0 x hx;have ht := tr_set h.vec hx0 hxn hu;refine ⟨vec_set h.vec hx0 hxn, fun y hy => ?_, fun g hg => (ht g).2 (.inl (h.giv g hg)), fun c hc => ?_⟩
 ·rcases (ht y).1 hy with e | e
  ·exact h.snd y e
  ·rw [e]; exact Der.unit hc0 hx fun m hm hne => h.snd _ (hall m hm hne)
 ·rcases h.cls c hc with e | ⟨a, ha, e⟩ | e | e
  ·rcases e with ⟨m, hm, e⟩ | ⟨m1, h1, m2, h2, hne, u1, u2⟩
   ·exact .inl (.inl ⟨m, hm, (ht m).2 (.inl e)⟩)
   ·by_cases e1 : m1.natAbs = x.natAbs
    ·rcases Int.natAbs_eq_natAbs_iff.1 e1 with e1 | e1
     ·exact .inl (.inl ⟨m1, h1, (ht m1).2 (.inr e1)⟩)
     ·exact .inr (.inl ⟨x, by simp, by rw [← e1]; exact h1⟩)
    ·by_cases e2 : m2.natAbs = x.natAbs
     ·rcases Int.natAbs_eq_natAbs_iff.1 e2 with e2 | e2
      ·exact .inl (.inl ⟨m2, h2, (ht m2).2 (.inr e2)⟩)
      ·exact .inr (.inl ⟨x, by simp, by rw [← e2]; exact h2⟩)
     ·exact .inl (.inr ⟨m1, h1, m2, h2, hne, un_set h.vec hxn u1 e1, un_set h.vec hxn u2 e2⟩)
  ·exact .inr (.inl ⟨a, List.mem_append_left _ ha, e⟩)
  ·subst e; exact .inl (.inl ⟨x, hx, (ht x).2 (.inr rfl)⟩)
  ·exact .inr (.inr e)
theorem St.conf {n : Nat} {C : List (List Int)} {G v o c0 : List Int} {R : List Int → Prop} (h : St n C G v o R) (hc0 : c0 ∈ C) (hall : ∀ m ∈ c0, tr v (-m)) : Conf C G :=
 ⟨c0, hc0, fun m hm => h.snd _ (hall m hm)⟩
def Res (n : Nat) (C : List (List Int)) (G : List Int) : Option (List Int) → Prop
 | none => Conf C G
 | some v => St n C G v [] (fun _ => False)
theorem St.ok {n : Nat} {C : List (List Int)} {G v : List Int} (h : St n C G v [] (fun _ => False)) {c : List Int} (hc : c ∈ C) : okc v c := by
 rcases h.cls c hc with e | ⟨a, ha, _⟩ | e
 ·exact e
 ·cases ha
 ·exact e.elim
theorem okc_unit {v c : List Int} (h : okc v c) {x : Int} (h2 : ∀ m ∈ c, m ≠ x → tr v (-m)) : tr v x := by
 rcases h with ⟨m, hm, e⟩ | ⟨m1, h1, m2, h3, hne, u1, u2⟩
 ·by_cases ex : m = x
  ·rw [← ex]; exact e
  ·exact (tr_neg e (h2 m hm ex)).elim
 ·by_cases ex : m1 = x
  ·exact (tr_un (h2 m2 h3 (fun e => hne (by rw [ex, e]))) (un_neg.2 u2)).elim
  ·exact (tr_un (h2 m1 h1 ex) (un_neg.2 u1)).elim
theorem St.der {n : Nat} {C : List (List Int)} {G v : List Int} (h : St n C G v [] (fun _ => False)) (x : Int) : tr v x ↔ Der C G x :=
 ⟨h.snd x, fun hd => hd (tr v) h.giv fun _ hc _ _ hs => okc_unit (h.ok hc) hs⟩
theorem St.noconf {n : Nat} {C : List (List Int)} {G v : List Int} (h : St n C G v [] (fun _ => False)) : ¬ Conf C G := by
 rintro ⟨c, hc, hall⟩;have h2 : ∀ m ∈ c, tr v (-m) := fun m hm => (h.der _).2 (hall m hm);rcases h.ok hc with ⟨m, hm, e⟩ | ⟨m1, h1, m2, h3, hne, u1, u2⟩
 ·exact tr_neg e (h2 m hm)
 ·exact tr_un (h2 m1 h1) (un_neg.2 u1)
theorem Res.same {n : Nat} {C : List (List Int)} {G : List Int} : ∀ {r s : Option (List Int)}, Res n C G r → Res n C G s → r = s
 | none, none, _, _ => rfl
 | none, some v, h, h2 => absurd h (St.noconf h2)
 | some v, none, h, h2 => absurd h2 (St.noconf h)
 | some v, some u, h, h2 => by
  have h : St n C G v [] (fun _ => False) := h;have h2 : St n C G u [] (fun _ => False) := h2;congr 1;have hg : ∀ i, v.getD i 0 = u.getD i 0 := fun i => by
   cases i with
   | zero => rw [h.vec.at0, h2.vec.at0]
   | succ i =>
    have a1 := h.vec.sgn (i + 1);have a2 := h2.vec.sgn (i + 1);have key : ∀ x : Int, x.natAbs = i + 1 → (v.getD (i + 1) 0 = foS x ↔ u.getD (i + 1) 0 = foS x) := fun x hx => by
     have := (h.der x).trans (h2.der x).symm;unfold tr at this;rw [hx] at this;have h0 : x ≠ 0 := (by omega);exact ⟨fun e => (this.1 ⟨h0, e⟩).2, fun e => (this.2 ⟨h0, e⟩).2⟩
    have k1 := key ((i + 1 : Nat) : Int) (by omega);have k2 := key (-((i + 1 : Nat) : Int)) (by omega);have f1 : foS ((i + 1 : Nat) : Int) = 1 := (by unfold foS; rw [if_neg (by omega), if_pos (by omega)]);rw [foS_neg, f1] at k2;rw [f1] at k1;omega
  apply List.ext_getElem (by rw [h.vec.len, h2.vec.len]);intro i h3 h4;have := hg i;rwa [List.getD_eq_getElem?_getD, List.getD_eq_getElem?_getD, List.getElem?_eq_getElem h3, List.getElem?_eq_getElem h4] at this
theorem foN_abs {n : Nat} (hn : n ≤ 400) {x : Int} (hx : x.natAbs ≤ n) : foN x = (x.natAbs : Int) := by
 unfold foN mx;rw [wrap64_id _ (by omega) (by omega)];split <;> omega
theorem rd_abs (v : List Int) (x : Int) : rd v (x.natAbs : Int) = v.getD x.natAbs 0 := by unfold rd; rw [Int.toNat_natCast]
theorem foT_is {n : Nat} (hn : n ≤ 400) {v : List Int} (hv : Vec n v) {x : Int} (hx : x ≠ 0 ∧ x.natAbs ≤ n) : (foT v x = true ↔ tr v x) ∧ (foF v x = true ↔ tr v (-x)) := by
 unfold foT foF tr;rw [foN_abs hn hx.2, rd_abs, Int.natAbs_neg, foS_neg];have h3 := hv.sgn x.natAbs;have hx1 : -x ≠ 0 := by omega
 have key : ∀ s : Int, s = 0 ∨ s = 1 ∨ s = -1 → ((decide (0 < wrap64 (s * x)) = true ↔ x ≠ 0 ∧ s = foS x) ∧ (decide (wrap64 (s * x) < 0) = true ↔ -x ≠ 0 ∧ s = -foS x)) := fun s hs => by
  rw [decide_eq_true_iff, decide_eq_true_iff];have h0 := hx.1;have h2 := hx.2;have hf : foS x = if x < 0 then -1 else if x > 0 then 1 else 0 := rfl
  rcases hs with rfl | rfl | rfl
  ·rw [Int.zero_mul, wrap64_id _ (by omega) (by omega)]; rw [hf]; split <;> omega
  ·rw [Int.one_mul, wrap64_id _ (by omega) (by omega)]; rw [hf]; split <;> omega
  ·rw [show (-1 : Int) * x = -x by omega, wrap64_id _ (by omega) (by omega)]; rw [hf]; split <;> omega
 exact key _ h3
theorem look_is {n : Nat} (hn : n ≤ 400) {v : List Int} (hv : Vec n v) : ∀ (c : List Int) (left : Int), (∀ m ∈ c, m ≠ 0 ∧ m.natAbs ≤ n) → (left = 0 ∨ left ≠ 0 ∧ un v left) →
  ((foLook v c left).2 = true ∧ left = 0 ∧ ∀ m ∈ c, tr v (-m)) ∨
  ((foLook v c left).2 = false ∧ (foLook v c left).1 ≠ 0 ∧ un v (foLook v c left).1 ∧ (left ≠ 0 ∧ (foLook v c left).1 = left ∨ left = 0 ∧ (foLook v c left).1 ∈ c) ∧ ∀ m ∈ c, m ≠ (foLook v c left).1 → tr v (-m)) ∨
  ((foLook v c left).2 = false ∧ (foLook v c left).1 = 0 ∧ ((∃ m ∈ c, tr v m) ∨ (∃ m1, (left ≠ 0 ∧ m1 = left ∨ m1 ∈ c) ∧ ∃ m2 ∈ c, m1 ≠ m2 ∧ un v m1 ∧ un v m2)))
 | [], left, _, hl => by
  rw [foLook];rcases hl with rfl | ⟨h0, hu⟩
  ·exact .inl ⟨show decide ((0 : Int) = 0) = true by decide, rfl, fun m hm => by cases hm⟩
  ·exact .inr (.inl ⟨decide_eq_false h0, h0, hu, .inl ⟨h0, rfl⟩, fun m hm => by cases hm⟩)
 | x :: c, left, hc, hl => by
  have hx := hc x List.mem_cons_self;have hc2 : ∀ m ∈ c, m ≠ 0 ∧ m.natAbs ≤ n := fun m hm => hc m (List.mem_cons_of_mem _ hm);obtain ⟨hT, hF⟩ := foT_is hn hv hx;rw [foLook];by_cases h1 : foT v x = true
  ·rw [if_pos h1];exact .inr (.inr ⟨rfl, rfl, .inl ⟨x, List.mem_cons_self, hT.1 h1⟩⟩)
  ·rw [if_neg h1];by_cases h2 : foF v x = true ∨ x = left
   ·rw [if_pos h2];rcases look_is hn hv c left hc2 hl with ⟨a1, a2, a3⟩ | ⟨a1, a2, a3, a4, a5⟩ | ⟨a1, a2, a3⟩
    ·refine .inl ⟨a1, a2, fun m hm => ?_⟩;rcases List.mem_cons.1 hm with rfl | hm
     ·rcases h2 with h2 | h2
      ·exact hF.1 h2
      ·exact absurd (h2.trans a2) hx.1
     ·exact a3 m hm
    ·refine .inr (.inl ⟨a1, a2, a3, ?_, fun m hm hne => ?_⟩)
     ·rcases a4 with a4 | a4
      ·exact .inl a4
      ·exact .inr ⟨a4.1, List.mem_cons_of_mem _ a4.2⟩
     ·rcases List.mem_cons.1 hm with rfl | hm
      ·rcases h2 with h2 | h2
       ·exact hF.1 h2
       ·rcases a4 with a4 | a4
        ·exact absurd (h2.trans a4.2.symm) hne
        ·exact absurd (h2.trans a4.1) hx.1
      ·exact a5 m hm hne
    ·refine .inr (.inr ⟨a1, a2, ?_⟩);rcases a3 with ⟨m, hm, e⟩ | ⟨m1, h1, m2, hm2, e⟩
     ·exact .inl ⟨m, List.mem_cons_of_mem _ hm, e⟩
     ·exact .inr ⟨m1, h1.imp id (List.mem_cons_of_mem _), m2, List.mem_cons_of_mem _ hm2, e⟩
   ·rw [if_neg h2];have hu : un v x := by
     rcases tri hv hx.1 with e | e | e
     ·exact absurd (hT.2 e) h1
     ·exact absurd (.inl (hF.2 e)) h2
     ·exact e
    by_cases h3 : left ≠ 0
    ·rw [if_pos h3];refine .inr (.inr ⟨rfl, rfl, .inr ⟨left, .inl ⟨h3, rfl⟩, x, List.mem_cons_self, fun e => h2 (.inr e.symm), ?_, hu⟩⟩);rcases hl with e | e
     ·exact absurd e h3
     ·exact e.2
    ·rw [if_neg h3];have h3 : left = 0 := Classical.not_not.1 h3;rcases look_is hn hv c x hc2 (.inr ⟨hx.1, hu⟩) with ⟨a1, a2, a3⟩ | ⟨a1, a2, a3, a4, a5⟩ | ⟨a1, a2, a3⟩
     ·exact absurd a2 hx.1
     ·have a4 : (foLook v c x).1 = x := by
       rcases a4 with a4 | a4
       ·exact a4.2
       ·exact absurd a4.1 hx.1
      refine .inr (.inl ⟨a1, a2, a3, .inr ⟨h3, by rw [a4]; exact List.mem_cons_self⟩, fun m hm hne => ?_⟩);rcases List.mem_cons.1 hm with rfl | hm
      ·exact absurd a4.symm hne
      ·exact a5 m hm hne
     ·refine .inr (.inr ⟨a1, a2, ?_⟩);rcases a3 with ⟨m, hm, e⟩ | ⟨m1, h1, m2, hm2, e⟩
      ·exact .inl ⟨m, List.mem_cons_of_mem _ hm, e⟩
      ·refine .inr ⟨m1, .inr ?_, m2, List.mem_cons_of_mem _ hm2, e⟩;rcases h1 with h1 | h1
       ·rw [h1.2]; exact List.mem_cons_self
       ·exact List.mem_cons_of_mem _ h1
theorem setV_is {n : Nat} (hn : n ≤ 400) {v : List Int} {x : Int} (hx : x.natAbs ≤ n) (hu : un v x) (q : List Int) : setV v x = setL v x ∧ setO v q x = q ++ [x] := by
 have e : rd v (foN x) = 0 := by rw [foN_abs hn hx, rd_abs]; exact hu
 unfold setV setO setL;rw [if_pos e, if_pos e, foN_abs hn hx, Int.toNat_natCast];exact ⟨rfl, rfl⟩
theorem step_look {n : Nat} (hn : n ≤ 400) {C : List (List Int)} {G v o c0 : List Int} {R : List Int → Prop} (hC : Nam n C) (h : St n C G v o (fun c => c = c0 ∨ R c)) (hc0 : c0 ∈ C) :
  ((foLook v c0 0).2 = true ∧ Conf C G) ∨ ((foLook v c0 0).2 = false ∧ ∃ o', (∀ q, lookO v (q ++ o) c0 = q ++ o') ∧ St n C G (lookV v c0) o' R ∧ cz (lookV v c0) + o'.length = cz v + o.length) := by
 rcases look_is hn h.vec c0 0 (hC c0 hc0) (.inl rfl) with ⟨a1, _, a3⟩ | ⟨a1, a2, a3, a4, a5⟩ | ⟨a1, a2, a3⟩
 ·exact .inl ⟨a1, h.conf hc0 a3⟩
 ·obtain ⟨x, hx⟩ : ∃ x, (foLook v c0 0).1 = x := ⟨_, rfl⟩;have hm : x ∈ c0 := by
   rcases a4 with a4 | a4
   ·exact absurd rfl a4.1
   ·rw [← hx]; exact a4.2
  rw [hx] at a2 a3 a5;have hl := hC c0 hc0 x hm;refine .inr ⟨a1, o ++ [x], fun q => ?_, ?_, ?_⟩
  ·unfold lookO;rw [hx, if_neg a2, (setV_is hn hl.2 a3 _).2, List.append_assoc]
  ·unfold lookV;rw [hx, if_neg a2, (setV_is hn hl.2 a3 []).1];exact h.set hC hc0 hm a3 a5
  ·unfold lookV;rw [hx, if_neg a2, (setV_is hn hl.2 a3 []).1];have := cz_setL h.vec hl.1 hl.2 a3;rw [List.length_append, List.length_singleton];omega
 ·refine .inr ⟨a1, o, fun q => ?_, ?_, ?_⟩
  ·unfold lookO; rw [if_pos a2]
  ·unfold lookV; rw [if_pos a2];refine h.weak fun c _ hr => ?_;rcases hr with rfl | hr
   ·rcases a3 with a3 | ⟨m1, h1, e⟩
    ·exact .inl (.inl a3)
    ·rcases h1 with h1 | h1
     ·exact absurd rfl h1.1
     ·exact .inl (.inr ⟨m1, h1, e⟩)
   ·exact .inr (.inr hr)
  ·unfold lookV; rw [if_pos a2]
theorem ph1_is {n : Nat} (hn : n ≤ 400) {C : List (List Int)} {G : List Int} (hC : Nam n C) : ∀ (rest : List (List Int)) (v o : List Int), St n C G v o (fun c => c ∈ rest) → (∀ c ∈ rest, c ∈ C) →
  (ph1 rest (v, o) = none ∧ Conf C G) ∨ ∃ v' o', ph1 rest (v, o) = some (v', o') ∧ St n C G v' o' (fun _ => False) ∧ cz v' + o'.length = cz v + o.length
 | [], v, o, h, _ => .inr ⟨v, o, rfl, h.weak (fun c _ hr => by cases hr), rfl⟩
 | c :: rest, v, o, h, hr => by
  have h1 : St n C G v o (fun d => d = c ∨ d ∈ rest) := h.weak fun d _ hd => .inr (.inr (List.mem_cons.1 hd));rw [ph1];rcases step_look hn hC h1 (hr c List.mem_cons_self) with ⟨a1, a2⟩ | ⟨a1, o', a2, a3, a4⟩
  ·exact .inl ⟨if_pos a1, a2⟩
  ·have e : stL (v, o) c = (lookV v c, o') := by
    have := a2 [];unfold stL;rw [List.nil_append, List.nil_append] at this;exact congrArg _ this
   rw [if_neg (by rw [show (v, o).1 = v from rfl, a1]; decide), e];rcases ph1_is hn hC rest _ _ a3 (fun d hd => hr d (List.mem_cons_of_mem _ hd)) with b | ⟨v', o2, b1, b2, b3⟩
   ·exact .inl b
   ·exact .inr ⟨v', o2, b1, b2, by omega⟩
theorem inn_is {n : Nat} (hn : n ≤ 400) {C : List (List Int)} {G : List Int} (hC : Nam n C) (a : Int) : ∀ (r : List Int) (v o : List Int), St n C G v o (fun c => ∃ k ∈ r, c = C.getD k.toNat []) → (∀ k ∈ r, C.getD k.toNat [] ∈ C) →
  (inn C r (v, a :: o) = none ∧ Conf C G) ∨ ∃ v' o', inn C r (v, a :: o) = some (v', a :: o') ∧ St n C G v' o' (fun _ => False) ∧ cz v' + o'.length = cz v + o.length
 | [], v, o, h, _ => .inr ⟨v, o, rfl, h.weak (fun c _ hr => by obtain ⟨k, hk, _⟩ := hr; cases hk), rfl⟩
 | j :: r, v, o, h, hr => by
  have h1 : St n C G v o (fun d => d = C.getD j.toNat [] ∨ ∃ k ∈ r, d = C.getD k.toNat []) := h.weak fun d _ hd => by
   obtain ⟨k, hk, e⟩ := hd;rcases List.mem_cons.1 hk with rfl | hk
   ·exact .inr (.inr (.inl e))
   ·exact .inr (.inr (.inr ⟨k, hk, e⟩))
  rw [inn];rcases step_look hn hC h1 (hr j List.mem_cons_self) with ⟨a1, a2⟩ | ⟨a1, o', a2, a3, a4⟩
  ·exact .inl ⟨if_pos a1, a2⟩
  ·have e : stL (v, a :: o) (C.getD j.toNat []) = (lookV v (C.getD j.toNat []), a :: o') := by
    have := a2 [a];unfold stL;exact congrArg _ this
   rw [if_neg (by rw [show (v, a :: o).1 = v from rfl, a1]; decide), e];rcases inn_is hn hC a r _ _ a3 (fun d hd => hr d (List.mem_cons_of_mem _ hd)) with b | ⟨v', o2, b1, b2, b3⟩
   ·exact .inl b
   ·exact .inr ⟨v', o2, b1, b2, by omega⟩
theorem prs_has (L : List (List Int)) (x : Int) (i : Nat) (hi : i < L.length) (hx : x ∈ L.getD i []) : ∀ n, i < n → (wrap64 (-x), (i : Int)) ∈ prs L n
 | 0, h => absurd h (by omega)
 | n + 1, h => by
  rw [prs];by_cases e : i = n
  ·subst e;exact List.mem_append_right _ (List.mem_map.2 ⟨x, hx, rfl⟩)
  ·exact List.mem_append_left _ (prs_has L x i hi hx n (by omega))
theorem grp_in {C : List (List Int)} (a k : Int) (h : k ∈ grp (prs C C.length) a) : C.getD k.toNat [] ∈ C := by
 unfold grp at h;obtain ⟨p, hp, rfl⟩ := List.mem_map.1 h;obtain ⟨i, hi, e⟩ := prs_mem C C.length p (List.mem_filter.1 hp).1;rw [e, Int.toNat_natCast, List.getD_eq_getElem?_getD, List.getElem?_eq_getElem hi];exact List.getElem_mem hi
theorem grp_all {n : Nat} (hn : n ≤ 400) {C : List (List Int)} (hC : Nam n C) {a : Int} {c : List Int} (hc : c ∈ C) (ha : -a ∈ c) : ∃ k ∈ grp (prs C C.length) a, c = C.getD k.toNat [] := by
 obtain ⟨i, hi, e⟩ := List.getElem_of_mem hc;have e2 : C.getD i [] = c := by rw [List.getD_eq_getElem?_getD, List.getElem?_eq_getElem hi]; exact e
 have hl := hC c hc _ ha;have hw : wrap64 (-(-a)) = a := by rw [wrap64_id _ (by omega) (by omega)]; omega
 have := prs_has C (-a) i hi (by rw [e2]; exact ha) C.length hi;refine ⟨(i : Int), ?_, by rw [Int.toNat_natCast]; exact e2.symm⟩;unfold grp;exact List.mem_map.2 ⟨_, List.mem_filter.2 ⟨this, by rw [hw]; exact beq_self_eq_true a⟩, rfl⟩
def outI : Option (List Int) → List Int × Bool
 | none => ([], true)
 | some v => (v, false)
theorem ph3_is {n : Nat} (hn : n ≤ 400) {C : List (List Int)} {G : List Int} (hC : Nam n C) : ∀ (k : Nat) (v o : List Int), St n C G v o (fun _ => False) → cz v + o.length < k → ∃ r, Res n C G r ∧ ph3 C (prs C C.length) k (v, o) = some (outI r)
 | 0, _, _, _, h => absurd h (by omega)
 | k + 1, v, [], h, _ => ⟨some v, h, rfl⟩
 | k + 1, v, a :: o, h, hk => by
  have h1 : St n C G v o (fun c => ∃ j ∈ grp (prs C C.length) a, c = C.getD j.toNat []) := ⟨h.vec, h.snd, h.giv, fun c hc => by
   rcases h.cls c hc with e | ⟨b, hb, e⟩ | e
   ·exact .inl e
   ·rcases List.mem_cons.1 hb with rfl | hb
    ·exact .inr (.inr (grp_all hn hC hc e))
    ·exact .inr (.inl ⟨b, hb, e⟩)
   ·exact e.elim⟩
  rw [ph3];rcases inn_is hn hC a _ v o h1 (fun k hk => grp_in a k hk) with ⟨e, e2⟩ | ⟨v', o', e, e2, e3⟩
  ·refine ⟨none, e2, ?_⟩;simp only [e];rfl
  ·rw [List.length_cons] at hk;obtain ⟨r, hr, e4⟩ := ph3_is hn hC k v' o' e2 (by omega);refine ⟨r, hr, ?_⟩;simp only [e, List.drop_one, List.tail_cons];exact e4
def gB (n : Int) : List Int → List Int → Bool
 | _, [] => true
 | q, x :: t => litB n x && (!decide (x ∈ q) && (!decide (-x ∈ q) && gB n (q ++ [x]) t))
theorem lit_abs {n : Nat} {x : Int} (h : litB (n : Int) x = true) : x ≠ 0 ∧ x.natAbs ≤ n := by
 have := of_decide_eq_true h;omega
theorem fold_is {n : Nat} (hn : n ≤ 400) : ∀ (t q v : List Int), Vec n v → (∀ y, tr v y ↔ y ∈ q) → gB (n : Int) q t = true →
  ∃ v', t.foldl stG (v, q) = (v', q ++ t) ∧ Vec n v' ∧ (∀ y, tr v' y ↔ y ∈ q ++ t) ∧ cz v' + t.length = cz v
 | [], q, v, hv, ht, _ => ⟨v, by rw [List.append_nil]; rfl, hv, by rw [List.append_nil]; exact ht, rfl⟩
 | x :: t, q, v, hv, ht, hg => by
  rw [gB, Bool.and_eq_true, Bool.and_eq_true, Bool.and_eq_true, Bool.not_eq_true', Bool.not_eq_true', decide_eq_false_iff_not, decide_eq_false_iff_not] at hg;obtain ⟨h1, h2, h3, h4⟩ := hg;have hl := lit_abs h1;have hu : un v x := by
   rcases tri hv hl.1 with e | e | e
   ·exact absurd ((ht x).1 e) h2
   ·exact absurd ((ht (-x)).1 e) h3
   ·exact e
  have hs := tr_set hv hl.1 hl.2 hu;obtain ⟨v', e1, e2, e3, e4⟩ := fold_is hn t (q ++ [x]) (setL v x) (vec_set hv hl.1 hl.2) (fun y => by rw [hs, ht, List.mem_append, List.mem_singleton]) h4;refine ⟨v', ?_, e2, fun y => ?_, ?_⟩
  ·rw [List.foldl_cons, show stG (v, q) x = (setL v x, q ++ [x]) by unfold stG; rw [(setV_is hn hl.2 hu q).1, (setV_is hn hl.2 hu q).2], e1, List.append_assoc]; rfl
  ·rw [e3, List.append_assoc]; rfl
  ·have := cz_setL hv hl.1 hl.2 hu;rw [List.length_cons];omega
theorem vec0 (n : Nat) : Vec n (List.replicate (n + 1) 0) ∧ (∀ y, tr (List.replicate (n + 1) 0) y ↔ y ∈ ([] : List Int)) ∧ cz (List.replicate (n + 1) 0) = n + 1 := by
 have hg : ∀ i, (List.replicate (n + 1) (0 : Int)).getD i 0 = 0 := fun i => by
  rw [List.getD_eq_getElem?_getD, List.getElem?_replicate];split <;> rfl
 refine ⟨⟨List.length_replicate, hg 0, fun i => .inl (hg i)⟩, fun y => ⟨fun h => ?_, fun h => by cases h⟩, ?_⟩
 ·have := h.2;rw [hg] at this;have := foS_two h.1;omega
 ·unfold cz; rw [List.count_replicate_self]
theorem start_is {n : Nat} (hn : n ≤ 400) {C : List (List Int)} {G : List Int} (hg : gB (n : Int) [] G = true) : ∃ v0, G.foldl stG (List.replicate (n + 1) 0, []) = (v0, G) ∧ (∀ o R, (∀ c ∈ C, R c) → St n C G v0 o R) ∧ cz v0 + G.length = n + 1 ∧ Vec n v0 := by
 obtain ⟨a1, a2, a3⟩ := vec0 n;obtain ⟨v0, e1, e2, e3, e4⟩ := fold_is hn G [] _ a1 a2 hg;rw [List.nil_append] at e1 e3;exact ⟨v0, e1, fun o R hr => ⟨e2, fun x hx => Der.giv ((e3 x).1 hx), fun g h => (e3 g).2 h, fun c hc => .inr (.inr (hr c hc))⟩, by omega, e2⟩
theorem gB_lit (n : Int) : ∀ (t q : List Int), gB n q t = true → ∀ x ∈ t, litB n x = true
 | [], _, _, x, hx => by cases hx
 | y :: t, q, h, x, hx => by
  rw [gB, Bool.and_eq_true, Bool.and_eq_true, Bool.and_eq_true] at h;rcases List.mem_cons.1 hx with rfl | hx
  ·exact h.1
  ·exact gB_lit n t _ h.2.2.2 x hx
theorem clB_is {n : Int} {c : List Int} (h : clauseB n c = true) : c.length ≤ 8 ∧ ∀ x ∈ c, litB n x = true := by
 unfold clauseB at h;rw [Bool.and_eq_true, decide_eq_true_iff, List.all_eq_true] at h;exact h
theorem cnB_is {n : Int} {l : List (List Int)} (h : cnfB n l = true) : 0 ≤ n ∧ n ≤ 400 ∧ l.length ≤ 1400 ∧ ∀ c ∈ l, clauseB n c = true := by
 unfold cnfB at h;rw [Bool.and_eq_true, decide_eq_true_iff, List.all_eq_true] at h;exact ⟨h.1.1, h.1.2.1, h.1.2.2, h.2⟩
theorem nam_of {n : Nat} {C : List (List Int)} (h : cnfB (n : Int) C = true) : Nam n C := fun c hc m hm => lit_abs ((clB_is ((cnB_is h).2.2.2 c hc)).2 m hm)
theorem cnfForced_is {n : Nat} {C : List (List Int)} {G : List Int} (h : cnfB (n : Int) C = true) (hg : gB (n : Int) [] G = true) : ∃ r, Res n C G r ∧ ∀ k, n + 1 < k → impl_Cnf_forced.f k (n : Int) C G = some (outI r) := by
 obtain ⟨b1, b2, b3, b4⟩ := cnB_is h;have hn : n ≤ 400 := by omega
 have hC := nam_of h;obtain ⟨v0, e1, e2, e3, e4⟩ := start_is (C := C) hn hg;have hgood : foGood (n : Int) C G = true := by
  unfold foGood;rw [Bool.and_eq_true, Bool.and_eq_true, decide_eq_true_iff, List.all_eq_true, List.all_eq_true];refine ⟨⟨b1, by omega, by omega, by omega⟩, fun x hx => gB_lit _ _ _ hg x hx, fun c hc => ?_⟩;obtain ⟨d1, d2⟩ := clB_is (b4 c hc);rw [Bool.and_eq_true, decide_eq_true_iff, List.all_eq_true];exact ⟨by omega, fun x hx => d2 x hx⟩
 have hf : ∀ k, impl_Cnf_forced.f k (n : Int) C G = foK C k (ph1 C (v0, G)) := fun k => by
  unfold impl_Cnf_forced.f;rw [if_pos hgood];unfold fo0;rw [show ((n : Int) + 1).toNat = n + 1 by omega, e1]
 rcases ph1_is hn hC C v0 G (e2 G _ fun c hc => hc) (fun c hc => hc) with ⟨c1, c2⟩ | ⟨v', o', c1, c2, c3⟩
 ·exact ⟨none, c2, fun k _ => by rw [hf, c1]; rfl⟩
 ·obtain ⟨r, hr, e5⟩ := ph3_is hn hC (n + 2) v' o' c2 (by omega);refine ⟨r, hr, fun k hk => ?_⟩;rw [hf, c1];obtain ⟨r2, hr2, e6⟩ := ph3_is hn hC k v' o' c2 (by omega);rw [Res.same hr hr2];exact e6
theorem sign_is {n : Nat} (hn : n ≤ 400) {v : List Int} (hv : Vec n v) {x : Int} (hx : x ≠ 0 ∧ x.natAbs ≤ n) : ∃ s, spec_l6Sign.f v x = some s ∧ ((s == 1) = true ↔ tr v x) ∧ (s = 0 ↔ un v x) := by
 have h3 := hv.sgn x.natAbs;have hl := hv.len;unfold spec_l6Sign.f tr un;rw [wrap64_id _ (by omega) (by omega)];have hr : ∀ y : Int, y = x.natAbs → rd v y = v.getD x.natAbs 0 := fun y hy => by rw [hy, rd_abs]
 by_cases h : x < 0
 ·rw [if_pos h, if_pos (by omega), if_pos (by omega), hr _ (by omega)];refine ⟨_, rfl, ?_⟩;have hf : foS x = -1 := by unfold foS; rw [if_pos h]
  rw [wrap64_id _ (by omega) (by omega), hf, beq_iff_eq];omega
 ·rw [if_neg h, if_pos (by omega), if_pos (by omega), hr _ (by omega)];refine ⟨_, rfl, ?_⟩;have hf : foS x = 1 := by unfold foS; rw [if_neg h, if_pos (by omega)]
  rw [hf, beq_iff_eq];omega
def ScP (v p : List Int) (m : Bool) (l f : Int) : Prop :=
 (m = true ↔ ∃ x ∈ p, tr v x) ∧ 0 ≤ f ∧ f ≤ (p.length : Int) ∧
 ((f = 0 ∧ l = 0 ∧ ∀ x ∈ p, ¬ un v x) ∨ (f = 1 ∧ l ∈ p ∧ un v l ∧ ∀ x ∈ p, un v x → x = l) ∨ (2 ≤ f ∧ l ∈ p ∧ un v l ∧ ∃ m1 ∈ p, ∃ m2 ∈ p, m1 ≠ m2 ∧ un v m1 ∧ un v m2))
theorem ScP.step {v p : List Int} {m : Bool} {l f x s : Int} (h : ScP v p m l f) (hx : x ≠ 0) (h1 : (s == 1) = true ↔ tr v x) (h0 : s = 0 ↔ un v x) :
  ScP v (p ++ [x]) (if m = true then true else (s == 1)) (if s = 0 then (if x = l then l else x) else l) (if s = 0 then (if x = l then f else f + 1) else f) := by
 obtain ⟨a1, a2, a3, a4⟩ := h;have hm : ((if m = true then true else (s == 1)) = true ↔ ∃ y ∈ p ++ [x], tr v y) := by
  constructor
  ·intro e;by_cases hm : m = true
   ·obtain ⟨y, hy, e2⟩ := a1.1 hm;exact ⟨y, List.mem_append_left _ hy, e2⟩
   ·rw [if_neg hm] at e;exact ⟨x, by simp, h1.1 e⟩
  ·rintro ⟨y, hy, e⟩;by_cases hm : m = true
   ·rw [if_pos hm]
   ·rw [if_neg hm];rcases List.mem_append.1 hy with hy | hy
    ·exact absurd (a1.2 ⟨y, hy, e⟩) hm
    ·rw [List.mem_singleton.1 hy] at e;exact h1.2 e
 have hq : ∀ y, y ∈ p ++ [x] ↔ y ∈ p ∨ y = x := fun y => by simp
 refine ⟨hm, ?_, ?_, ?_⟩
 ·split
  ·split <;> omega
  ·exact a2
 ·rw [List.length_append, List.length_singleton];split
  ·split <;> omega
  ·omega
 ·by_cases e0 : s = 0
  ·have hu := h0.1 e0;rw [if_pos e0, if_pos e0];by_cases el : x = l
   ·rw [if_pos el, if_pos el];rcases a4 with ⟨b1, b2, b3⟩ | ⟨b1, b2, b3, b4⟩ | ⟨b1, b2, b3, m1, b4, m2, b5, b6⟩
    ·exact absurd (el.trans b2) hx
    ·refine .inr (.inl ⟨b1, (hq _).2 (.inl b2), b3, fun y hy hy2 => ?_⟩);rcases (hq y).1 hy with e | e
     ·exact b4 y e hy2
     ·exact e.trans el
    ·exact .inr (.inr ⟨b1, (hq _).2 (.inl b2), b3, m1, (hq _).2 (.inl b4), m2, (hq _).2 (.inl b5), b6⟩)
   ·rw [if_neg el, if_neg el];rcases a4 with ⟨b1, b2, b3⟩ | ⟨b1, b2, b3, b4⟩ | ⟨b1, b2, b3, m1, b4, m2, b5, b6⟩
    ·refine .inr (.inl ⟨by omega, (hq _).2 (.inr rfl), hu, fun y hy hy2 => ?_⟩);rcases (hq y).1 hy with e | e
     ·exact absurd hy2 (b3 y e)
     ·exact e
    ·exact .inr (.inr ⟨by omega, (hq _).2 (.inr rfl), hu, x, (hq _).2 (.inr rfl), l, (hq _).2 (.inl b2), el, hu, b3⟩)
    ·exact .inr (.inr ⟨by omega, (hq _).2 (.inr rfl), hu, m1, (hq _).2 (.inl b4), m2, (hq _).2 (.inl b5), b6⟩)
  ·have hu : ¬ un v x := fun e => e0 (h0.2 e);rw [if_neg e0, if_neg e0];rcases a4 with ⟨b1, b2, b3⟩ | ⟨b1, b2, b3, b4⟩ | ⟨b1, b2, b3, m1, b4, m2, b5, b6⟩
   ·refine .inl ⟨b1, b2, fun y hy hy2 => ?_⟩;rcases (hq y).1 hy with e | e
    ·exact b3 y e hy2
    ·exact hu (e ▸ hy2)
   ·refine .inr (.inl ⟨b1, (hq _).2 (.inl b2), b3, fun y hy hy2 => ?_⟩);rcases (hq y).1 hy with e | e
    ·exact b4 y e hy2
    ·exact absurd (e ▸ hy2) hu
   ·exact .inr (.inr ⟨b1, (hq _).2 (.inl b2), b3, m1, (hq _).2 (.inl b4), m2, (hq _).2 (.inl b5), b6⟩)
def aft (n : Int) (C : List (List Int)) (ci : Int) (k : Nat) (v : List Int) (g m : Bool) (l f : Int) : Option (Bool × List Int) :=
 if m = true then spec_l6Force.l1 k v g C (C.length : Int) (wrap64 (ci + 1)) n C else if f = 0 then some (true, v) else if f = 1 then (if l < 0 then (if 0 ≤ wrap64 (-l) then (if wrap64 (-l) < (v.length : Int) then spec_l6Force.l1 k (v.set (wrap64 (-l) : Int).toNat (-1)) true C (C.length : Int) (wrap64 (ci + 1)) n C else none) else none) else (if 0 ≤ l then (if l < (v.length : Int) then spec_l6Force.l1 k (v.set (l : Int).toNat 1) true C (C.length : Int) (wrap64 (ci + 1)) n C else none) else none)) else spec_l6Force.l1 k v g C (C.length : Int) (wrap64 (ci + 1)) n C
theorem l2_is {n : Nat} (hn : n ≤ 400) (C : List (List Int)) (ci : Int) {v c : List Int} (hv : Vec n v) (hc : ∀ m ∈ c, m ≠ 0 ∧ m.natAbs ≤ n) (hcl : c.length ≤ 8) (g : Bool) (d : Nat) : ∀ (i : Nat) (m : Bool) (l f : Int), i + d = c.length → ScP v (c.take i) m l f →
  ∃ m' l' f', ScP v c m' l' f' ∧ ∀ k, spec_l6Force.l2 (k + d + 1) v g m l f C (C.length : Int) ci c (c.length : Int) (i : Int) (n : Int) C = aft (n : Int) C ci k v g m' l' f' := by
 induction d with
 | zero =>
  intro i m l f hi hs;refine ⟨m, l, f, by rwa [List.take_of_length_le (by omega)] at hs, fun k => ?_⟩;simp only [spec_l6Force.l2];rewrite [if_neg (by omega)];rfl
 | succ d ih =>
  intro i m l f hi hs;have hit : i < c.length := by omega
  have e1 : wrap64 ((i : Int) + 1) = ((i + 1 : Nat) : Int) := by rw [wrap64_id _ (by omega) (by omega)]; omega
  have hx := hc _ (List.getElem_mem hit);obtain ⟨s, hs1, hs2, hs3⟩ := sign_is hn hv hx;have hf : wrap64 (f + 1) = f + 1 := by
   obtain ⟨_, q1, q2, _⟩ := hs;rw [List.length_take] at q2;exact wrap64_id _ (by omega) (by omega)
  have hstep := hs.step hx.1 hs2 hs3;rw [show c.take i ++ [c[i]] = c.take (i + 1) by rw [List.take_add_one, List.getElem?_eq_getElem hit, Option.toList_some]] at hstep;obtain ⟨m', l', f', h1, h2⟩ := ih (i + 1) _ _ _ (by omega) hstep;refine ⟨m', l', f', h1, fun k => ?_⟩;rw [← h2 k];rw [show k + (d + 1) + 1 = (k + d + 1) + 1 by omega];rw [spec_l6Force.l2];rewrite [if_pos (by omega), if_pos (by omega), if_pos (by omega), rdInt_at hit, hs1, Option.bind_some, e1, hf];by_cases hm : m = true
  ·rw [if_pos hm, if_pos hm];by_cases e0 : s = 0
   ·rw [if_pos e0, if_pos e0, if_pos e0];by_cases el : c[i] = l
    ·rw [if_pos el, if_pos el, if_pos el]
    ·rw [if_neg el, if_neg el, if_neg el]
   ·rw [if_neg e0, if_neg e0, if_neg e0]
  ·rw [if_neg hm, if_neg hm];by_cases e0 : s = 0
   ·rw [if_pos e0, if_pos e0, if_pos e0];by_cases el : c[i] = l
    ·rw [if_pos el, if_pos el, if_pos el]
    ·rw [if_neg el, if_neg el, if_neg el]
   ·rw [if_neg e0, if_neg e0, if_neg e0]
theorem l1_is {n : Nat} (hn : n ≤ 400) {C : List (List Int)} {G : List Int} (hC : Nam n C) (hCl : C.length ≤ 1400) (hcl : ∀ c ∈ C, c.length ≤ 8) (d : Nat) : ∀ (i : Nat) (v o : List Int) (g : Bool), i + d = C.length → St n C G v o (fun c => c ∈ C.drop i) → (g = false → o = []) →
  ((Conf C G) ∧ ∃ s v', ∀ k, spec_l6Force.l1 (k + s) v g C (C.length : Int) (i : Int) (n : Int) C = some (true, v')) ∨
  ∃ s v' o' g', (∀ k, spec_l6Force.l1 (k + s) v g C (C.length : Int) (i : Int) (n : Int) C = spec_l6Force.l0 k v' g' (n : Int) C) ∧ St n C G v' o' (fun _ => False) ∧ (g' = false → o' = []) ∧ cz v' ≤ cz v ∧ (g' = true → g = true ∨ cz v' < cz v) := by
 induction d with
 | zero =>
  intro i v o g hi h hg;refine .inr ⟨1, v, o, g, fun k => ?_, h.weak fun c _ hc => ?_, hg, Nat.le_refl _, fun e => .inl e⟩
  ·rw [spec_l6Force.l1, if_neg (by omega)]
  ·rw [List.drop_eq_nil_of_le (by omega)] at hc; cases hc
 | succ d ih =>
  intro i v o g hi h hg;have hit : i < C.length := by omega
  have e1 : wrap64 ((i : Int) + 1) = ((i + 1 : Nat) : Int) := by rw [wrap64_id _ (by omega) (by omega)]; omega
  have hmem := List.getElem_mem hit;have hd : C.drop i = C[i] :: C.drop (i + 1) := List.drop_eq_getElem_cons hit;have h1 : St n C G v o (fun c => c = C[i] ∨ c ∈ C.drop (i + 1)) := h.weak fun c _ hc => by
   rw [hd] at hc;exact .inr (.inr (List.mem_cons.1 hc))
  obtain ⟨m, l, f, ⟨a1, a2, a3, a4⟩, h2⟩ := l2_is hn C (i : Int) h.vec (hC _ hmem) (hcl _ hmem) g C[i].length 0 false 0 0 (by omega)
   ⟨⟨(fun e => by cases e), (fun ⟨x, hx, _⟩ => by cases hx)⟩, by omega, by simp, .inl ⟨rfl, rfl, (fun x hx => by cases hx)⟩⟩
  have e2 : ∀ k, spec_l6Force.l1 (k + (C[i].length + 2)) v g C (C.length : Int) (i : Int) (n : Int) C = aft (n : Int) C (i : Int) k v g m l f := fun k => by
   rw [← h2 k, show k + (C[i].length + 2) = (k + C[i].length + 1) + 1 by omega, spec_l6Force.l1, if_pos (by omega), if_pos (by omega), if_pos (by omega), rdIS_at hit];rfl
  have hnext : ∀ {v2 o2 : List Int} {g2 : Bool}, (∀ k, aft (n : Int) C (i : Int) k v g m l f = spec_l6Force.l1 k v2 g2 C (C.length : Int) ((i + 1 : Nat) : Int) (n : Int) C) → St n C G v2 o2 (fun c => c ∈ C.drop (i + 1)) → (g2 = false → o2 = []) → cz v2 ≤ cz v → (g2 = true → g = true ∨ cz v2 < cz v) →
    ((Conf C G) ∧ ∃ s v', ∀ k, spec_l6Force.l1 (k + s) v g C (C.length : Int) (i : Int) (n : Int) C = some (true, v')) ∨
    ∃ s v' o' g', (∀ k, spec_l6Force.l1 (k + s) v g C (C.length : Int) (i : Int) (n : Int) C = spec_l6Force.l0 k v' g' (n : Int) C) ∧ St n C G v' o' (fun _ => False) ∧ (g' = false → o' = []) ∧ cz v' ≤ cz v ∧ (g' = true → g = true ∨ cz v' < cz v) := by
   intro v2 o2 g2 q1 q2 q3 q4 q5;rcases ih (i + 1) v2 o2 g2 (by omega) q2 q3 with ⟨r1, s, v', r2⟩ | ⟨s, v', o', g', r1, r2, r3, r4, r5⟩
   ·refine .inl ⟨r1, s + (C[i].length + 2), v', fun k => ?_⟩;rw [← Nat.add_assoc, e2, q1, r2]
   ·refine .inr ⟨s + (C[i].length + 2), v', o', g', fun k => ?_, r2, r3, by omega, fun e => ?_⟩
    ·rw [← Nat.add_assoc, e2, q1, r1]
    ·rcases r5 e with e | e
     ·rcases q5 e with e | e
      ·exact .inl e
      ·exact .inr (by omega)
     ·exact .inr (by omega)
  by_cases hm : m = true
  ·refine hnext (v2 := v) (o2 := o) (g2 := g) (fun k => by unfold aft; rw [if_pos hm, e1]) (h1.weak fun c _ hc => ?_) hg (Nat.le_refl _) (fun e => .inl e);rcases hc with rfl | hc
   ·exact .inl (.inl (a1.1 hm))
   ·exact .inr (.inr hc)
  ·have hfa : ∀ x ∈ C[i], ¬ un v x → tr v (-x) := fun x hx hu => by
    rcases tri h.vec (hC _ hmem x hx).1 with e | e | e
    ·exact absurd (a1.2 ⟨x, hx, e⟩) hm
    ·exact e
    ·exact absurd e hu
   rcases a4 with ⟨b1, b2, b3⟩ | ⟨b1, b2, b3, b4⟩ | ⟨b1, b2, b3, m1, b4, m2, b5, b6⟩
   ·refine .inl ⟨h.conf hmem fun x hx => hfa x hx (b3 x hx), C[i].length + 2, v, fun k => ?_⟩;rw [e2];unfold aft;rw [if_neg hm, if_pos b1]
   ·have hl := hC _ hmem l b2;have hset := St.set hC h1 hmem b2 b3 (fun x hx hne => hfa x hx fun hu => hne (b4 x hx hu));have hcz := cz_setL h.vec hl.1 hl.2 b3;have hvl := h.vec.len;refine hnext (v2 := setL v l) (o2 := o ++ [l]) (g2 := true) (fun k => ?_) hset (fun e => by cases e) (by omega) (fun _ => .inr (by omega));unfold aft setL foS;rw [if_neg hm, if_neg (by omega), if_pos b1, e1, wrap64_id _ (by omega) (by omega)];by_cases hl0 : l < 0
    ·rw [if_pos hl0, if_pos (by omega), if_pos (by omega), if_pos hl0, show (-l).toNat = l.natAbs by omega]
    ·rw [if_neg hl0, if_pos (by omega), if_pos (by omega), if_neg hl0, if_pos (by omega), show l.toNat = l.natAbs by omega]
   ·refine hnext (v2 := v) (o2 := o) (g2 := g) (fun k => by unfold aft; rw [if_neg hm, if_neg (by omega), if_neg (by omega), e1]) (h1.weak fun c _ hc => ?_) hg (Nat.le_refl _) (fun e => .inl e);rcases hc with rfl | hc
    ·exact .inl (.inr ⟨m1, b4, m2, b5, b6⟩)
    ·exact .inr (.inr hc)
theorem l0_is {n : Nat} (hn : n ≤ 400) {C : List (List Int)} {G : List Int} (hC : Nam n C) (hCl : C.length ≤ 1400) (hcl : ∀ c ∈ C, c.length ≤ 8) : ∀ (z : Nat) (v : List Int), cz v ≤ z → St n C G v [] (fun c => c ∈ C) →
  ∃ r, Res n C G r ∧ ∃ s v', (∀ k, spec_l6Force.l0 (k + s) v true (n : Int) C = some (r.isNone, v')) ∧ (∀ u, r = some u → v' = u)
 | z, v, hz, h => by
  have e0 : ∀ k, spec_l6Force.l0 (k + 1) v true (n : Int) C = spec_l6Force.l1 k v false C (C.length : Int) ((0 : Nat) : Int) (n : Int) C := fun k => by
   rw [spec_l6Force.l0, if_pos rfl]; rfl
  rcases l1_is hn hC hCl hcl C.length 0 v [] false (by omega) (by rw [List.drop_zero]; exact h) (fun _ => rfl) with ⟨r1, s, v', r2⟩ | ⟨s, v', o', g', r1, r2, r3, r4, r5⟩
  ·exact ⟨none, r1, s + 1, v', fun k => by rw [← Nat.add_assoc, e0, r2]; rfl, fun u hu => by cases hu⟩
  ·cases g' with
   | false =>
    have ho := r3 rfl;subst ho;refine ⟨some v', r2, 1 + s + 1, v', fun k => ?_, fun u hu => Option.some.inj hu⟩;rw [← Nat.add_assoc, e0, ← Nat.add_assoc, r1, spec_l6Force.l0, if_neg (by decide)];rfl
   | true =>
    have hlt : cz v' < cz v := by
     rcases r5 rfl with e | e
     ·cases e
     ·exact e
    cases z with
    | zero => omega
    | succ z =>
     obtain ⟨r, hr, s2, v2, h3, h4⟩ := l0_is hn hC hCl hcl z v' (by omega) (⟨r2.vec, r2.snd, r2.giv, fun c hc => .inr (.inr hc)⟩);refine ⟨r, hr, s2 + s + 1, v2, fun k => ?_, h4⟩;rw [← Nat.add_assoc, e0, ← Nat.add_assoc, r1, h3]
theorem fkA_is (v : List Int) : ∀ (d i : Nat), i + d = v.length → i ≤ fkA v d i ∧ fkA v d i ≤ v.length ∧ (fkA v d i < v.length → rd v (fkA v d i : Int) = 0)
 | 0, i, h => by
  rw [fkA];exact ⟨Nat.le_refl _, by omega, fun h2 => by omega⟩
 | d + 1, i, h => by
  rw [fkA];by_cases h0 : rd v (i : Int) = 0
  ·rw [if_pos h0];exact ⟨Nat.le_refl _, by omega, fun _ => h0⟩
  ·rw [if_neg h0];obtain ⟨a1, a2, a3⟩ := fkA_is v d (i + 1) (by omega);exact ⟨by omega, a2, a3⟩
theorem rd_drop1 (v : List Int) (i : Nat) : rd (v.drop 1) (i : Int) = rd v ((i + 1 : Nat) : Int) := by
 unfold rd;rw [Int.toNat_natCast, Int.toNat_natCast, List.getD_eq_getElem?_getD, List.getD_eq_getElem?_getD, List.getElem?_drop, Nat.add_comm 1 i]
def fkR (v : List Int) (t : Nat) : Int := if t = v.length then -1 else (t : Int) - 1
theorem index_is (v : List Int) (hl : v.length ≤ 1000) (d : Nat) : ∀ (i k : Nat), i + 1 + d = v.length → d < k →
  slices_Index_int.l0 k (v.drop 1) 0 ((v.drop 1).length : Int) (i : Int) = some (fkR v (fkA v d (i + 1))) := by
 induction d with
 | zero =>
  intro i k hi hk;obtain ⟨k, rfl⟩ : ∃ m, k = m + 1 := ⟨k - 1, by omega⟩;have hdl : (v.drop 1).length = v.length - 1 := List.length_drop;rw [slices_Index_int.l0, if_neg (by omega), fkA];unfold fkR;rw [if_pos (by omega)]
 | succ d ih =>
  intro i k hi hk;obtain ⟨k, rfl⟩ : ∃ m, k = m + 1 := ⟨k - 1, by omega⟩;have hdl : (v.drop 1).length = v.length - 1 := List.length_drop;have e1 : wrap64 ((i : Int) + 1) = ((i + 1 : Nat) : Int) := by rw [wrap64_id _ (by omega) (by omega)]; omega
  rw [slices_Index_int.l0, if_pos (by omega), if_pos (by omega), if_pos (by omega), rd_drop1, e1, fkA];by_cases h0 : rd v ((i + 1 : Nat) : Int) = 0
  ·rw [if_pos h0.symm, if_pos h0];unfold fkR;rw [if_neg (by omega)];congr 1;omega
  ·rw [if_neg (fun e => h0 e.symm), if_neg h0];exact ih (i + 1) k (by omega) (by omega)
theorem vals_loop (n : Int) (C : List (List Int)) (x y : Int) (t : List Int) (hl : t.length ≤ 1000) (d : Nat) : ∀ (i k : Nat) (acc : List Bool), i + d = t.length → d < k → acc.length ≤ i →
  impl_search_examine.l0 k acc t (t.length : Int) (i : Int) n C x y = some (1, acc ++ (t.drop i).map (fun z => decide (z > 0)), n, x, y) := by
 induction d with
 | zero =>
  intro i k acc hi hk ha;obtain ⟨k, rfl⟩ : ∃ m, k = m + 1 := ⟨k - 1, by omega⟩;rw [impl_search_examine.l0, if_neg (by omega), List.drop_eq_nil_of_le (by omega), List.map_nil, List.append_nil]
 | succ d ih =>
  intro i k acc hi hk ha;obtain ⟨k, rfl⟩ : ∃ m, k = m + 1 := ⟨k - 1, by omega⟩;have hit : i < t.length := by omega
  have e1 : wrap64 ((i : Int) + 1) = ((i + 1 : Nat) : Int) := by rw [wrap64_id _ (by omega) (by omega)]; omega
  have hd : t.drop i = t[i] :: t.drop (i + 1) := List.drop_eq_getElem_cons hit;rw [impl_search_examine.l0, if_pos (by omega), if_pos (by omega), if_pos (by omega), if_pos (by omega), rdInt_at hit, e1, hd, ih (i + 1) k _ (by omega) (by omega) (by rw [List.length_append, List.length_singleton]; omega), List.map_cons, List.append_assoc];rfl
theorem gB_snoc (n x : Int) : ∀ (t q : List Int), gB n q (t ++ [x]) = (gB n q t && (litB n x && (!decide (x ∈ q ++ t) && !decide (-x ∈ q ++ t))))
 | [], q => by
  rw [List.nil_append, List.append_nil, gB, gB, gB, Bool.and_true, Bool.true_and]
 | y :: t, q => by
  rw [List.cons_append, gB, gB, gB_snoc n x t (q ++ [y]), List.append_assoc, List.singleton_append, Bool.and_assoc, Bool.and_assoc, Bool.and_assoc]
theorem cz_one {n : Nat} {v : List Int} (h : Vec n v) : 1 ≤ cz v := by
 have h0 := h.at0;have hl := h.len;cases v with
 | nil => simp at hl
 | cons y t =>
  have hy : y = 0 := h0;unfold cz;rw [hy, List.count_cons_self];omega
theorem gB_len {n : Nat} (hn : n ≤ 400) {A : List Int} (hg : gB (n : Int) [] A = true) : A.length ≤ n := by
 obtain ⟨v0, _, _, e3, e4⟩ := start_is (C := []) hn hg;have := cz_one e4;omega
theorem Der.more {C : List (List Int)} {G H : List Int} {x : Int} (h : Der C G x) (hs : ∀ g ∈ G, g ∈ H) : Der C H x := fun S hg hc => h S (fun g hm => hg g (hs g hm)) hc
theorem next_is {n : Nat} {C : List (List Int)} {A v : List Int} (hg : gB (n : Int) [] A = true) (h : St n C A v [] (fun _ => False)) {x : Int} (hx : x ≠ 0) (hxn : x.natAbs ≤ n) (hu : un v x) :
  gB (n : Int) [] (A ++ [x]) = true ∧ St n C (A ++ [x]) (setL v x) [] (fun c => c ∈ C) := by
 have ht := tr_set h.vec hx hxn hu;refine ⟨?_, vec_set h.vec hx hxn, fun y hy => ?_, fun g hm => ?_, fun c hc => .inr (.inr hc)⟩
 ·have n1 : ¬ x ∈ A := fun e => tr_un (h.giv _ e) hu;have n2 : ¬ -x ∈ A := fun e => tr_un (h.giv _ e) (un_neg.2 hu);rw [gB_snoc, hg, List.nil_append, decide_eq_false n1, decide_eq_false n2, show litB (n : Int) x = true from decide_eq_true ⟨hx, by omega, by omega⟩];rfl
 ·rcases (ht y).1 hy with e | rfl
  ·exact (h.snd y e).more fun g hm => List.mem_append_left _ hm
  ·exact Der.giv (List.mem_append_right _ List.mem_cons_self)
 ·rcases List.mem_append.1 hm with e | e
  ·exact (ht g).2 (.inl (h.giv g e))
  ·exact (ht g).2 (.inr (List.mem_singleton.1 e))
theorem map_sgn {n : Nat} {v : List Int} (h : Vec n v) : (v.drop 1).map (fun z => decide (z > 0)) = (v.drop 1).map (fun y => y == 1) := by
 apply List.map_congr_left;intro a ha;obtain ⟨i, hi, rfl⟩ := List.getElem_of_mem (List.mem_of_mem_drop ha);have := h.sgn i;rw [List.getD_eq_getElem?_getD, List.getElem?_eq_getElem hi, Option.getD_some] at this;rcases this with e | e | e <;> rw [e] <;> rfl
theorem clone_val (A : List Int) (h : A.length ≤ 1000) : slices_Clone_int.f A = some A := by
 unfold slices_Clone_int.f;rw [Option.bind_some, List.nil_append, if_pos (by rw [List.length_nil]; omega)]
theorem both_search {n : Nat} {C : List (List Int)} (h : cnfB (n : Int) C = true) (b : Int) (hb1 : b ≤ 300) : ∀ (d : Nat) (A s : List Int) (m : Int), A.length + d = n → gB (n : Int) [] A = true → St n C A s [] (fun c => c ∈ C) → 0 ≤ m → m ≤ b →
  ∃ K code vals m', m ≤ m' ∧ m' ≤ b ∧ (vals.length ≤ n ∧ (code = 1 → vals.length = n)) ∧ ∀ k, K ≤ k → impl_search_examine.f k (n : Int) C (b - m) m A = some (code, vals, (n : Int), b - m', m') ∧ trF k (n : Int) C b m s = some (code, vals, m') := by
 obtain ⟨b1, b2, b3, b4⟩ := cnB_is h;have hn : n ≤ 400 := by omega
 have hC := nam_of h;have hcl : ∀ c ∈ C, c.length ≤ 8 := fun c hc => (clB_is (b4 c hc)).1;intro d;induction d using Nat.strongRecOn with
 | ind d ih =>
  intro A s m hd hg hst hm0 hmb;obtain ⟨r, hr, hi⟩ := cnfForced_is h hg;obtain ⟨r2, hr2, s2, v', hs, hu⟩ := l0_is hn hC (by omega) hcl (cz s) s (Nat.le_refl _) hst;obtain rfl := Res.same hr hr2;have hsp : ∀ k, s2 ≤ k → spec_l6Force.f k (n : Int) C s = some (r.isNone, v') := fun k hk => by
   unfold spec_l6Force.f;have := hs (k - s2);rwa [show k - s2 + s2 = k by omega] at this
  have hsl := hst.vec.len;have hcond : (s.length : Int) = (n : Int) + 1 ∧ 0 ≤ (n : Int) ∧ (n : Int) ≤ 1000000 := ⟨by omega, by omega, by omega⟩;cases r with
  | none =>
   refine ⟨n + 3 + s2, 2, [], m, Int.le_refl _, hmb, ⟨by simp, fun h => absurd h (by decide)⟩, fun k hk => ?_⟩;obtain ⟨k, rfl⟩ : ∃ j, k = j + 1 := ⟨k - 1, by omega⟩;constructor
   ·rw [impl_search_examine.f, hi k (by omega), Option.bind_some];exact if_pos rfl
   ·rw [trF, if_pos hcond, hsp k (by omega), Option.bind_some];exact if_pos rfl
  | some v =>
   obtain rfl := hu v rfl;have hr : St n C A v' [] (fun _ => False) := hr;replace hi : ∀ k, n + 1 < k → impl_Cnf_forced.f k (n : Int) C A = some (v', false) := hi;have hv := hr.vec;have hl := hv.len;obtain ⟨T, hT⟩ : ∃ T, fkA v' n 1 = T := ⟨_, rfl⟩;obtain ⟨t1, t2, t3⟩ := fkA_is v' n 1 (by omega);rw [hT] at t1 t2 t3;have hdl : (v'.drop 1).length = v'.length - 1 := List.length_drop;have hix : ∀ k, n < k → slices_Index_int.f k (v'.drop 1) 0 = some (fkR v' T) := fun k hk => by
    unfold slices_Index_int.f;have := index_is v' (by omega) n 0 k (by omega) hk;rw [show 0 + 1 = 1 from rfl, hT, Int.natCast_zero] at this;exact this
   have hw : wrap64 (fkR v' T + 1) = if T = v'.length then 0 else (T : Int) := by
    unfold fkR;split
    ·rw [wrap64_id _ (by omega) (by omega)]; omega
    ·rw [wrap64_id _ (by omega) (by omega)]; omega
   have hs1 : ∀ k, s2 ≤ k → trF (k + 1) (n : Int) C b m s = if T = v'.length then some (1, (v'.drop 1).map (fun y => y == 1), m) else if m = b then some (3, [], m) else (trF k (n : Int) C b (wrap64 (m + 1)) (v'.set T (-1))).bind fun q => if q.1 = 2 then trF k (n : Int) C b q.2.2 (v'.set T 1) else some q := fun k hk => by
    rw [trF, if_pos hcond, hsp k hk, Option.bind_some];dsimp only [Option.isNone_some];rw [if_neg (by decide), Int.toNat_natCast, hT]
   by_cases hTl : T = v'.length
   ·rw [if_pos hTl] at hw;refine ⟨2 * n + 5 + s2, 1, (v'.drop 1).map (fun y => y == 1), m, Int.le_refl _, hmb, ⟨by rw [List.length_map]; omega, fun _ => by rw [List.length_map]; omega⟩, fun k hk => ?_⟩;obtain ⟨k, rfl⟩ : ∃ j, k = j + 1 := ⟨k - 1, by omega⟩;rw [impl_search_examine.f, hi k (by omega), Option.bind_some, hs1 k (by omega), if_pos hTl];refine ⟨?_, rfl⟩;dsimp only;rw [if_neg (by decide), if_pos (by omega), hix k (by omega), Option.bind_some, hw, if_pos rfl, Option.bind_some];have := vals_loop (n : Int) C (b - m) m (v'.drop 1) (by omega) (v'.drop 1).length 0 k [] (by omega) (by omega) (by simp);rw [List.nil_append, List.drop_zero, map_sgn hv] at this;exact this
   ·rw [if_neg hTl] at hw;have hTp : (T : Int) ≠ 0 := (by omega);by_cases hmb2 : m = b
    ·refine ⟨2 * n + 5 + s2, 3, [], m, Int.le_refl _, hmb, ⟨by simp, fun h => absurd h (by decide)⟩, fun k hk => ?_⟩;obtain ⟨k, rfl⟩ : ∃ j, k = j + 1 := ⟨k - 1, by omega⟩;rw [impl_search_examine.f, hi k (by omega), Option.bind_some, hs1 k (by omega), if_neg hTl, if_pos hmb2];refine ⟨?_, rfl⟩;dsimp only;rw [if_neg (by decide), if_pos (by omega), hix k (by omega), Option.bind_some, hw, if_neg hTp, if_pos (by omega)]
    ·have hz : v'.getD T 0 = 0 := by
      have := t3 (by omega);unfold rd at this;rwa [Int.toNat_natCast] at this
     have hu1 : un v' (-(T : Int)) := (by unfold un; rw [Int.natAbs_neg, Int.natAbs_natCast]; exact hz);have hu2 : un v' (T : Int) := (by unfold un; rw [Int.natAbs_natCast]; exact hz);obtain ⟨g1, p1⟩ := next_is hg hr (x := -(T : Int)) (by omega) (by omega) hu1;obtain ⟨g2, p2⟩ := next_is hg hr (x := (T : Int)) hTp (by omega) hu2;have q1 : setL v' (-(T : Int)) = v'.set T (-1) := by
      unfold setL foS;rw [Int.natAbs_neg, Int.natAbs_natCast, if_pos (by omega)]
     have q2 : setL v' (T : Int) = v'.set T 1 := by
      unfold setL foS;rw [Int.natAbs_natCast, if_neg (by omega), if_pos (by omega)]
     rw [q1] at p1;rw [q2] at p2;have hlen := gB_len hn g1;rw [List.length_append, List.length_singleton] at hlen;have hAl : A.length ≤ 1000 := (by omega);obtain ⟨K1, c1, v1, m1, j1, j2, j3, hk1⟩ := ih (d - 1) (by omega) (A ++ [-(T : Int)]) (v'.set T (-1)) (m + 1) (by rw [List.length_append, List.length_singleton]; omega) g1 p1 (by omega) (by omega);have e2 : wrap64 (b - m - 1) = b - (m + 1) := (by rw [wrap64_id _ (by omega) (by omega)]; omega);have e3 : wrap64 (m + 1) = m + 1 := wrap64_id _ (by omega) (by omega);have e4 : wrap64 (-(T : Int)) = -(T : Int) := wrap64_id _ (by omega) (by omega);have hst2 : ∀ k, 2 * n + 5 + s2 + K1 ≤ k → impl_search_examine.f (k + 1) (n : Int) C (b - m) m A = if c1 = 2 then (impl_search_examine.f k (n : Int) C (b - m1) m1 (A ++ [(T : Int)])).bind fun t => some (t.1, t.2.1, t.2.2.1, t.2.2.2.1, t.2.2.2.2) else some (c1, v1, (n : Int), b - m1, m1) := fun k hk => by
      rw [impl_search_examine.f, hi k (by omega), Option.bind_some];dsimp only;rw [if_neg (by decide), if_pos (by omega), hix k (by omega), Option.bind_some, hw, if_neg hTp, if_neg (by omega), clone_val A hAl, Option.bind_some, if_pos (by omega), e2, e3, e4, (hk1 k (by omega)).1, Option.bind_some];dsimp only;by_cases hc : c1 = 2
      ·rw [if_pos hc, if_pos hc, Option.bind_some, if_pos (by omega)]
      ·rw [if_neg hc, if_neg hc]
     by_cases hc : c1 = 2
     ·obtain ⟨K2, c2, v2, m2, l1, l2, l3, hk2⟩ := ih (d - 1) (by omega) (A ++ [(T : Int)]) (v'.set T 1) m1 (by rw [List.length_append, List.length_singleton]; omega) g2 p2 (by omega) (by omega);refine ⟨2 * n + 6 + s2 + K1 + K2, c2, v2, m2, by omega, by omega, l3, fun k hk => ?_⟩;obtain ⟨k, rfl⟩ : ∃ j, k = j + 1 := ⟨k - 1, by omega⟩;rw [hst2 k (by omega), if_pos hc, (hk2 k (by omega)).1, Option.bind_some, hs1 k (by omega), if_neg hTl, if_neg hmb2, e3, (hk1 k (by omega)).2, Option.bind_some];exact ⟨rfl, (if_pos hc).trans (hk2 k (by omega)).2⟩
     ·refine ⟨2 * n + 6 + s2 + K1, c1, v1, m1, by omega, by omega, j3, fun k hk => ?_⟩;obtain ⟨k, rfl⟩ : ∃ j, k = j + 1 := ⟨k - 1, by omega⟩;rw [hst2 k (by omega), if_neg hc, hs1 k (by omega), if_neg hTl, if_neg hmb2, e3, (hk1 k (by omega)).2, Option.bind_some];exact ⟨rfl, if_neg hc⟩
def clG (g : Gt) (w : Int) : List (List Int) := (impl_clausesOf.f g.f0 g.f1 g.f2 w).getD []
theorem clG_is (g : Gt) (w : Int) : impl_clausesOf.f g.f0 g.f1 g.f2 w = some (clG g w) ∧ (clG g w).length ≤ 4 := by
 unfold clG impl_clausesOf.f;split
 ·split
  ·exact ⟨rfl, by simp⟩
  ·exact ⟨rfl, by simp⟩
 ·split
  ·exact ⟨rfl, by simp⟩
  ·split
   ·exact ⟨rfl, by simp⟩
   ·split
    ·exact ⟨rfl, by simp⟩
    ·exact ⟨rfl, by simp⟩
theorem rdGt_at {t : List Gt} {i : Nat} (h : i < t.length) : rd_T75 t (i : Int) = t[i] := rdGate_at h
theorem spec_step (k : Nat) (want : List Bool) (g : List Gt) (o : List Int) (n W : Int) (acc : List (List Int)) (i : Nat) (hi : i < g.length) (hn : 0 ≤ n) (hn2 : n ≤ 16) (hg : g.length ≤ 300) (hok : okGate (n + (i : Int)) g[i] = true) (ha : acc.length ≤ 100000) :
  spec_l6For.l0 (k + 1) want g (g.length : Int) (i : Int) n g o W acc = spec_l6For.l0 k want g (g.length : Int) ((i + 1 : Nat) : Int) n g o W (acc ++ clG g[i] (wrap64 ((wrap64 (n + (i : Int))) + 1))) := by
 have e1 : wrap64 ((i : Int) + 1) = ((i + 1 : Nat) : Int) := by rw [wrap64_id _ (by omega) (by omega)]; omega
 have ew : wrap64 ((wrap64 (n + (i : Int))) + 1) = n + i + 1 := by rw [wrap64_id (n + i) (by omega) (by omega), wrap64_id _ (by omega) (by omega)]
 rw [spec_l6For.l0, if_pos (by omega), if_pos (by omega), if_pos (by omega), rdGt_at hi, e1];obtain ⟨q, hq⟩ : ∃ q, g[i] = q := ⟨_, rfl⟩;rw [hq] at hok ⊢;unfold okGate at hok;unfold clG impl_clausesOf.f;by_cases h1 : q.f0 = 1
 ·rw [if_pos h1] at hok;rw [if_pos h1, if_pos (by omega), if_pos h1];have hb := (Bool.and_eq_true _ _).mp hok;have hb1 := (Bool.and_eq_true _ _).mp hb.1;have b0 := of_decide_eq_true hb1.1;have b1 := of_decide_eq_true hb1.2;by_cases h2 : q.f1 = 1
  ·rw [if_pos h2, h2, ew, show wrap64 (2 * 1) = 2 from wrap64_id 2 (by decide) (by decide), show wrap64 (2 - 1) = 1 from wrap64_id 1 (by decide) (by decide), wrap64_id ((n + i + 1) * 1) (by omega) (by omega), Int.mul_one];rfl
  ·have h0 : q.f1 = 0 := (by omega);rw [if_neg h2, h0, ew, show wrap64 (2 * 0) = 0 from wrap64_id 0 (by decide) (by decide), show wrap64 (0 - 1) = -1 by rw [wrap64_id _ (by omega) (by omega)]; rfl, show (n + (i : Int) + 1) * -1 = -(n + i + 1) by omega];rfl
 ·rw [if_neg h1] at hok;rw [if_neg h1, if_neg h1];by_cases h2 : q.f0 = 2
  ·rw [if_pos h2, if_pos h2, Option.bind_some, if_pos (by simp only [List.length_cons, List.length_nil]; omega)];rfl
  ·rw [if_neg h2] at hok;rw [if_neg h2, if_neg h2];by_cases h3 : q.f0 = 3
   ·rw [if_pos h3, if_pos h3, Option.bind_some, if_pos (by simp only [List.length_cons, List.length_nil]; omega)];rfl
   ·rw [if_neg h3, if_neg h3];by_cases h4 : q.f0 = 4
    ·rw [if_pos h4, if_pos h4, Option.bind_some, if_pos (by simp only [List.length_cons, List.length_nil]; omega)];rfl
    ·rw [if_neg h4, if_neg h4];by_cases h5 : q.f0 = 5
     ·rw [if_pos h5, Option.bind_some, if_pos (by simp only [List.length_cons, List.length_nil]; omega)];rfl
     ·rw [if_neg (by omega)] at hok;cases hok
def wordN (l : List Bool) : Nat → Int
 | 0 => 0
 | i + 1 => Go.bits .or .u64 (wordN l i) (shl .u64 (if rdOf false l (i : Int) = true then 1 else 0) (i : Int))
theorem word_loop (l : List Bool) (hl : l.length ≤ 9) (d : Nat) : ∀ (i k : Nat), i + d = l.length → d < k → impl_wordOf.l0 k (wordN l i) l (l.length : Int) (i : Int) = some (wordN l l.length) := by
 induction d with
 | zero =>
  intro i k hi hk;obtain ⟨k, rfl⟩ : ∃ m, k = m + 1 := ⟨k - 1, by omega⟩;obtain rfl : i = l.length := by omega
  simp only [impl_wordOf.l0];rw [if_neg (by omega)]
 | succ d ih =>
  intro i k hi hk;obtain ⟨k, rfl⟩ : ∃ m, k = m + 1 := ⟨k - 1, by omega⟩;have e1 : wrap64 ((i : Int) + 1) = ((i + 1 : Nat) : Int) := by rw [wrap64_id _ (by omega) (by omega)]; omega
  have et : impl_truth.f (rdOf false l (i : Int)) = some (if rdOf false l (i : Int) = true then 1 else 0) := by unfold impl_truth.f; split <;> rfl
  have h2 := ih (i + 1) k (by omega) (by omega);simp only [impl_wordOf.l0];rewrite [if_pos (by omega), if_pos (by omega), if_pos (by omega), et, e1];simp only [Option.bind_some];exact h2
theorem word_val (l : List Bool) (hl : l.length ≤ 9) : impl_wordOf.f 10 l = some (wordN l l.length) := word_loop l hl l.length 0 10 (by omega) (by omega)
theorem chWords_val (cs : List (List Bool)) (h : ∀ c ∈ cs, c.length ≤ 9) : chWords cs = some (cs.map fun c => wordN c c.length) := by
 induction cs with
 | nil => rfl
 | cons c r ih =>
  unfold chWords;rw [word_val c (h c List.mem_cons_self), ih (fun x hx => h x (List.mem_cons_of_mem _ hx))];rfl
def stf (wd : Nat) (l : List Bool) (m i : Nat) : List Int := (List.range m).map fun q => wordN ((l.drop (q * wd)).take wd) (min wd (i - q * wd))
theorem stf_len (wd : Nat) (l : List Bool) (m i : Nat) : (stf wd l m i).length = m := by unfold stf; simp
theorem stf_at (wd : Nat) (l : List Bool) (m i q : Nat) (h : q < (stf wd l m i).length) : (stf wd l m i)[q] = wordN ((l.drop (q * wd)).take wd) (min wd (i - q * wd)) := by simp [stf]
theorem stf_zero (wd : Nat) (l : List Bool) (m : Nat) : stf wd l m 0 = List.replicate m 0 := by
 unfold stf;apply List.ext_getElem
 ·simp
 ·intro q h1 h2;simp [wordN]
theorem stf_succ (wd : Nat) (hw : 1 ≤ wd) (l : List Bool) (m i : Nat) (hi : i < l.length) (hl : l.length = m * wd) :
  stf wd l m (i + 1) = (stf wd l m i).set (i / wd) (Go.bits .or .u64 (rd (stf wd l m i) ((i / wd : Nat) : Int)) (shl .u64 (if rdOf false l (i : Int) = true then 1 else 0) ((i % wd : Nat) : Int))) := by
 have hdm := Nat.div_add_mod i wd;have hr := Nat.mod_lt i (show 0 < wd by omega);have hq : i / wd < m := by
  refine Nat.div_lt_of_lt_mul ?_;rw [Nat.mul_comm, ← hl];exact hi
 obtain ⟨q0, hq0⟩ : ∃ q0, i / wd = q0 := ⟨_, rfl⟩;obtain ⟨r, hr0⟩ : ∃ r, i % wd = r := ⟨_, rfl⟩;rw [hq0, hr0] at hdm;rw [hr0] at hr;rw [hq0] at hq;rw [hq0, hr0];rw [Nat.mul_comm] at hdm;apply List.ext_getElem
 ·rw [List.length_set, stf_len, stf_len]
 ·intro q h1 h2;rw [stf_len] at h1;have e : rd (stf wd l m i) (q0 : Int) = wordN ((l.drop (q0 * wd)).take wd) r := by
   have h3 : q0 < (stf wd l m i).length := (by rw [stf_len]; exact hq);rw [rdUint64_at h3, stf_at];congr 1;omega
  rw [List.getElem_set];by_cases hqq : q0 = q
  ·subst hqq;rw [if_pos rfl, e];rw [stf_at, show min wd (i + 1 - q0 * wd) = r + 1 by omega, wordN];have h4 : rdOf false ((l.drop (q0 * wd)).take wd) (r : Int) = rdOf false l (i : Int) := by
    have h5 : r < ((l.drop (q0 * wd)).take wd).length := (by rw [List.length_take, List.length_drop]; omega);rw [rdBool_at h5, rdBool_at hi, List.getElem_take, List.getElem_drop];congr 1
   rw [h4]
  ·rw [if_neg hqq];rw [stf_at, stf_at];congr 1;rcases Nat.lt_or_gt_of_ne hqq with hlt | hlt
   ·have h6 : (q0 + 1) * wd ≤ q * wd := Nat.mul_le_mul_right _ hlt;rw [Nat.succ_mul] at h6;omega
   ·have h6 : (q + 1) * wd ≤ q0 * wd := Nat.mul_le_mul_right _ hlt;rw [Nat.succ_mul] at h6;omega
theorem stf_end (wd : Nat) (l : List Bool) (m : Nat) : (chChunks wd l m).map (fun c => wordN c c.length) = stf wd l m l.length := by
 unfold chChunks stf;rw [List.map_map];apply List.map_congr_left;intro q _;show wordN _ ((l.drop (q * wd)).take wd).length = _;congr 1;rw [List.length_take, List.length_drop]
theorem from_loop (wd : Nat) (hw : 1 ≤ wd) (hw4 : wd ≤ 4) (l : List Bool) (m : Nat) (hl : l.length = m * wd) (hm : m ≤ 4) (d : Nat) : ∀ (i k : Nat), i + d = l.length → d < k →
  spec_StateFrom.l0 k (wd : Int) (stf wd l m i) l (l.length : Int) (i : Int) = some (stf wd l m l.length, true) := by
 have h16 : l.length ≤ 16 := by rw [hl]; exact Nat.le_trans (Nat.mul_le_mul hm hw4) (by decide)
 induction d with
 | zero =>
  intro i k hi hk;obtain ⟨k, rfl⟩ : ∃ m, k = m + 1 := ⟨k - 1, by omega⟩;obtain rfl : i = l.length := by omega
  simp only [spec_StateFrom.l0];rw [if_neg (by omega)]
 | succ d ih =>
  intro i k hi hk;obtain ⟨k, rfl⟩ : ∃ m, k = m + 1 := ⟨k - 1, by omega⟩;have hit : i < l.length := by omega
  have hq : i / wd < m := by
   refine Nat.div_lt_of_lt_mul ?_;rw [Nat.mul_comm, ← hl];exact hit
  have hr := Nat.mod_lt i (show 0 < wd by omega);have e1 : wrap64 ((i : Int) + 1) = ((i + 1 : Nat) : Int) := by rw [wrap64_id _ (by omega) (by omega)]; omega
  have e2 : Int.tdiv (i : Int) (wd : Int) = ((i / wd : Nat) : Int) := by rw [Int.tdiv_eq_ediv_of_nonneg (by omega)]; rfl
  have e3 : Int.tmod (i : Int) (wd : Int) = ((i % wd : Nat) : Int) := by rw [Int.tmod_eq_emod_of_nonneg (by omega)]; rfl
  have et : spec_l2Bool.f (rdOf false l (i : Int)) = some (if rdOf false l (i : Int) = true then 1 else 0) := by unfold spec_l2Bool.f; split <;> rfl
  have h2 := ih (i + 1) k (by omega) (by omega);rw [stf_succ wd hw l m i hit hl] at h2;obtain ⟨q0, hq0⟩ : ∃ q0, i / wd = q0 := ⟨_, rfl⟩;obtain ⟨r, hr0⟩ : ∃ r, i % wd = r := ⟨_, rfl⟩;rw [hq0] at hq e2 h2;rw [hr0] at hr e3 h2;have e4 : wrap64 (q0 : Int) = (q0 : Int) := wrap64_id _ (by omega) (by omega);have e5 : IntKind.u64.wrap (r : Int) = (r : Int) := u64_id _ (by omega) (by omega);have c1 : (i : Int) < (l.length : Int) := by omega
  have c2 : (0 : Int) ≤ (i : Int) := by omega
  have c3 : ¬ (wd : Int) = 0 := by omega
  have c4 : (0 : Int) ≤ (q0 : Int) := Int.natCast_nonneg _;have c5 : (q0 : Int) < ((stf wd l m i).length : Int) := by rw [stf_len]; exact Int.ofNat_lt.mpr hq
  have c6 : (0 : Int) ≤ (r : Int) := Int.natCast_nonneg _;simp only [spec_StateFrom.l0];rewrite [e2, e3, e4, e5, if_pos c1, if_pos c2, if_pos c1, if_neg c3, if_pos c4, if_pos c5, et, e1];simp only [Option.bind_some];rewrite [if_pos c6, Int.toNat_natCast];exact h2
def sfR (a0 : Int) (l : List Bool) : List Int × Bool := if chGood a0 l.length = true then (stf a0.toNat l (l.length / a0.toNat) l.length, true) else ([], false)
theorem good_parts {a0 : Int} {n : Nat} (h : chGood a0 n = true) : ∃ wd m : Nat, a0 = (wd : Int) ∧ 1 ≤ wd ∧ wd ≤ 4 ∧ n = m * wd ∧ 1 ≤ m ∧ m ≤ 4 ∧ n / wd = m ∧ (n : Int) / a0 = (m : Int) ∧ (n : Int) % a0 = 0 := by
 unfold chGood at h;simp only [Bool.and_eq_true, decide_eq_true_eq] at h;obtain ⟨g1, g4, gm, gv1, gv4⟩ := h;obtain ⟨wd, rfl⟩ : ∃ wd : Nat, a0 = (wd : Int) := ⟨a0.toNat, by omega⟩;obtain ⟨m, hm⟩ : ∃ m : Nat, (m : Int) = (n : Int) / (wd : Int) := ⟨((n : Int) / (wd : Int)).toNat, by omega⟩;have hlm : n = m * wd := by
  have h1 := Int.mul_ediv_add_emod (n : Int) (wd : Int);rw [gm, ← hm, Int.add_zero, Int.mul_comm] at h1;have h2 : ((m * wd : Nat) : Int) = (n : Int) := by rw [Int.natCast_mul]; exact h1
  omega
 refine ⟨wd, m, rfl, by omega, by omega, hlm, by omega, by omega, ?_, hm.symm, gm⟩;rw [hlm];exact Nat.mul_div_cancel _ (by omega)
theorem sfR_len (a0 : Int) (l : List Bool) : (sfR a0 l).1.length ≤ 4 := by
 unfold sfR;split
 ·rename_i h
  obtain ⟨wd, m, rfl, h1, h4, hl, hm1, hm4, hd, _⟩ := good_parts h;rw [Int.toNat_natCast, hd];dsimp only;rw [stf_len];exact hm4
 ·simp
theorem from_impl (a0 : Int) (l : List Bool) : impl_StateFrom.f a0 l = some (sfR a0 l) := by
 unfold impl_StateFrom.f sfR;by_cases h : chGood a0 l.length = true
 ·rw [if_pos h, if_pos h];obtain ⟨wd, m, rfl, h1, h4, hl, hm1, hm4, hd, _⟩ := good_parts h;rw [Int.toNat_natCast, hd, chWords_val _ (fun c hc => by
   unfold chChunks at hc;obtain ⟨q, _, rfl⟩ := List.mem_map.1 hc;rw [List.length_take]; omega), stf_end wd l m]
  rfl
 ·rw [if_neg h, if_neg h]
theorem l5Wide_val (a : Int) : spec_l5Wide.f a = some (decide (1 ≤ a ∧ a ≤ 4)) := by
 unfold spec_l5Wide.f spec_l1In.f;by_cases h : a ≥ 1
 ·rw [if_pos h]; simp only [Option.bind_some]; congr 1; exact decide_eq_decide.mpr ⟨fun h2 => ⟨h, h2⟩, fun h2 => h2.2⟩
 ·rw [if_neg h]; simp only [Option.bind_some]; rw [decide_eq_false (fun h2 => h h2.1)]
theorem from_spec (a0 : Int) (l : List Bool) (_ : l.length ≤ 1048576) (k : Nat) (hk : 100 ≤ k) : spec_StateFrom.f k a0 l = some (sfR a0 l) := by
 obtain ⟨k, rfl⟩ : ∃ m, k = m + 1 := ⟨k - 1, by omega⟩;unfold spec_StateFrom.f sfR;rw [l5Wide_val];simp only [Option.bind_some];by_cases hw : 1 ≤ a0 ∧ a0 ≤ 4
 ·rw [decide_eq_true hw, if_pos rfl, if_neg (by omega)];by_cases hm : (l.length : Int) % a0 = 0
  ·have hdiv0 : (0 : Int) ≤ (l.length : Int) / a0 := Int.ediv_nonneg (by omega) (by omega);have hdiv1 : (l.length : Int) / a0 ≤ (l.length : Int) := Int.ediv_le_self _ (by omega);have ew : wrap64 ((l.length : Int) / a0) = (l.length : Int) / a0 := wrap64_id _ (by omega) (by omega);rw [if_pos hm, ew];unfold spec_l1In.f;by_cases h : chGood a0 l.length = true
   ·obtain ⟨wd, m, rfl, h1, h4, hlm, hm1, hm4, hd, hdi, _⟩ := good_parts h;rw [if_pos h, Int.toNat_natCast, hd, hdi, if_pos (by omega)];simp only [Option.bind_some, spec_StateFrom.j0];rw [hdi, wrap64_id _ (by omega) (by omega), decide_eq_true (by omega), if_neg (by decide), if_neg (by omega), if_pos (by omega), if_pos (by omega), Int.toNat_natCast, ← stf_zero wd l m];have h16 : l.length ≤ 16 := (by rw [hlm]; exact Nat.le_trans (Nat.mul_le_mul hm4 h4) (by decide));exact from_loop wd h1 h4 l m hlm hm4 l.length 0 k (by omega) (by omega)
   ·rw [if_neg h];have hno : ¬ (1 ≤ (l.length : Int) / a0 ∧ (l.length : Int) / a0 ≤ 4) := by
     intro h2;refine h ?_;unfold chGood;simp only [Bool.and_eq_true, decide_eq_true_eq];exact ⟨hw.1, hw.2, hm, h2.1, h2.2⟩
    by_cases h1 : (l.length : Int) / a0 ≥ 1
    ·rw [if_pos h1, decide_eq_false (by omega)];simp only [Option.bind_some, spec_StateFrom.j0];rfl
    ·rw [if_neg h1];simp only [Option.bind_some, spec_StateFrom.j0];rfl
  ·have h : ¬ chGood a0 l.length = true := by
    intro h;unfold chGood at h;simp only [Bool.and_eq_true, decide_eq_true_eq] at h;exact hm h.2.2.1
   rw [if_neg hm, if_neg h];simp only [spec_StateFrom.j0];rfl
 ·have h : ¬ chGood a0 l.length = true := by
   intro h;unfold chGood at h;simp only [Bool.and_eq_true, decide_eq_true_eq] at h;exact hw ⟨h.1, h.2.1⟩
  rw [decide_eq_false hw, if_neg (by decide), if_neg h];simp only [spec_StateFrom.j0];rfl
theorem gatesOf_one (w v : Int) (t : List Nd) (hok : okNodes t) (hk : kindT w v t = 2) (hp : t.any notPlain = false) (hw : 1 ≤ w ∧ w ≤ 4) : ∃ g o, gatesOf w v t = some (w * v, g, o) ∧ o.length = 1 := by
 unfold kindT at hk;split at hk
 ·rename_i hc
  obtain ⟨wd, rfl⟩ : ∃ wd : Nat, w = wd := ⟨w.toNat, by omega⟩;cases hr : runK wd v t [] with
  | none => rw [hr] at hk; exact absurd hk (by decide)
  | some st =>
   rw [hr] at hk;match st, hk with
   | [], hk => exact absurd hk (by decide)
   | _ :: _ :: _, hk => exact absurd hk (by simp [top])
   | [k], hk =>
    have hk2 : k = 2 := hk;obtain ⟨g, rv, hf, hl, hg⟩ := gfold_ok wd v (wd * v) (by omega) (by omega) (by omega) t [] [k] [] [] hr hp hok rfl (by simp; omega) (by simp; omega);match rv, hl with
    | [], hl => simp at hl
    | _ :: _ :: _, hl => simp at hl
    | [o], hl =>
     simp only [List.map_cons, List.map_nil, List.cons.injEq, and_true] at hl;have h1 : o.length = 1 := (by rw [hl, hk2]; rfl);have hol : o.length ≤ 1000 := (by omega);refine ⟨g, o, ?_, h1⟩;unfold gatesOf;rw [if_pos ⟨by omega, by omega, by omega, by omega, by omega⟩, Int.toNat_natCast, show (([] : List S75), ([] : List (List Int))) = ([], List.reverse []) from rfl, hf];simp only [Option.bind_some, List.reverse_cons, List.reverse_nil, List.nil_append, if_pos hol]
 ·omega
theorem gatesR_one (w v : Int) (t : List Nd) (hok : okNodes t) (hk : kindT w v t = 2) (h : (gatesR w v t).2.2.2 = true) : (gatesR w v t).2.2.1.length = 1 := by
 unfold gatesR at h ⊢;split at h
 ·rename_i hc
  obtain ⟨g, o, hg, ho⟩ := gatesOf_one w v t hok hk hc.2.2 hc.1;rw [if_pos hc];rw [hg] at h ⊢;dsimp only at h ⊢;split at h
  ·rename_i hc2
   rw [if_pos hc2];exact ho
  ·cases h
 ·cases h
theorem gatesR_kind (w v : Int) (t : List Nd) (h : (gatesR w v t).2.2.2 = true) : kindT w v t > 0 := by
 unfold gatesR at h;split at h
 ·rename_i hc; exact hc.2.1
 ·cases h
theorem lit_yes {N x : Int} (h0 : x ≠ 0) (h1 : -N ≤ x) (h2 : x ≤ N) : litB N x = true := decide_eq_true ⟨h0, h1, h2⟩
theorem clause_yes {N : Int} {c : List Int} (hl : c.length ≤ 8) (h : ∀ x ∈ c, litB N x = true) : clauseB N c = true := by
 unfold clauseB;rw [decide_eq_true hl, List.all_eq_true.mpr h];rfl
theorem clG_good (g : Gt) (w0 N : Int) (hw : 0 ≤ w0) (hN : w0 + 1 ≤ N) (hN2 : N ≤ 400) (hok : okGate w0 g = true) : ∀ c ∈ clG g (w0 + 1), clauseB N c = true := by
 unfold okGate at hok;have w1 : wrap64 (-(w0 + 1)) = -(w0 + 1) := wrap64_id _ (by omega) (by omega);have bel : ∀ {z x : Int}, below z x = true → 0 ≤ x ∧ x < z := fun h => below_is h;unfold clG impl_clausesOf.f;by_cases h1 : g.f0 = 1
 ·rw [if_pos h1];have l1 : litB N (w0 + 1) = true := lit_yes (by omega) (by omega) (by omega);have l2 : litB N (-(w0 + 1)) = true := lit_yes (by omega) (by omega) (by omega);split
  ·intro c hc;simp only [Option.getD_some, List.mem_cons, List.not_mem_nil, or_false] at hc;subst hc;exact clause_yes (by simp) (by simp [l1])
  ·intro c hc;simp only [Option.getD_some, List.mem_cons, List.not_mem_nil, or_false] at hc;subst hc;rw [w1];exact clause_yes (by simp) (by simp [l2])
 ·rw [if_neg h1] at hok ⊢;have hA : 0 ≤ g.f1 ∧ g.f1 < w0 := by
   by_cases h2 : g.f0 = 2
   ·rw [if_pos h2] at hok;exact bel ((Bool.and_eq_true _ _).mp hok).1
   ·rw [if_neg h2] at hok;by_cases h3 : 3 ≤ g.f0 ∧ g.f0 ≤ 5
    ·rw [if_pos h3] at hok;exact bel ((Bool.and_eq_true _ _).mp hok).1
    ·rw [if_neg h3] at hok; cases hok
  have a1 : wrap64 (g.f1 + 1) = g.f1 + 1 := wrap64_id _ (by omega) (by omega);have a2 : wrap64 (-(g.f1 + 1)) = -(g.f1 + 1) := wrap64_id _ (by omega) (by omega);have l1 : litB N (w0 + 1) = true := lit_yes (by omega) (by omega) (by omega);have l2 : litB N (-(w0 + 1)) = true := lit_yes (by omega) (by omega) (by omega);have l3 : litB N (g.f1 + 1) = true := lit_yes (by omega) (by omega) (by omega);have l4 : litB N (-(g.f1 + 1)) = true := lit_yes (by omega) (by omega) (by omega);by_cases h2 : g.f0 = 2
  ·rw [if_pos h2, a1, a2, w1];intro c hc;simp only [Option.getD_some, List.mem_cons, List.not_mem_nil, or_false] at hc;rcases hc with rfl | rfl
   ·exact clause_yes (by simp) (by simp [l1, l3])
   ·exact clause_yes (by simp) (by simp [l2, l4])
  ·rw [if_neg h2] at hok ⊢;have hB : 0 ≤ g.f2 ∧ g.f2 < w0 := by
    by_cases h3 : 3 ≤ g.f0 ∧ g.f0 ≤ 5
    ·rw [if_pos h3] at hok;exact bel ((Bool.and_eq_true _ _).mp hok).2
    ·rw [if_neg h3] at hok; cases hok
   have b1 : wrap64 (g.f2 + 1) = g.f2 + 1 := wrap64_id _ (by omega) (by omega);have b2 : wrap64 (-(g.f2 + 1)) = -(g.f2 + 1) := wrap64_id _ (by omega) (by omega);have l5 : litB N (g.f2 + 1) = true := lit_yes (by omega) (by omega) (by omega);have l6 : litB N (-(g.f2 + 1)) = true := lit_yes (by omega) (by omega) (by omega);rw [a1, a2, b1, b2, w1];split
   ·intro c hc;simp only [Option.getD_some, List.mem_cons, List.not_mem_nil, or_false] at hc;rcases hc with rfl | rfl | rfl
    ·exact clause_yes (by simp) (by simp [l2, l3])
    ·exact clause_yes (by simp) (by simp [l2, l5])
    ·exact clause_yes (by simp) (by simp [l1, l4, l6])
   ·split
    ·intro c hc;simp only [Option.getD_some, List.mem_cons, List.not_mem_nil, or_false] at hc;rcases hc with rfl | rfl | rfl
     ·exact clause_yes (by simp) (by simp [l1, l4])
     ·exact clause_yes (by simp) (by simp [l1, l6])
     ·exact clause_yes (by simp) (by simp [l2, l3, l5])
    ·intro c hc;simp only [Option.getD_some, List.mem_cons, List.not_mem_nil, or_false] at hc;rcases hc with rfl | rfl | rfl | rfl
     ·exact clause_yes (by simp) (by simp [l2, l3, l5])
     ·exact clause_yes (by simp) (by simp [l2, l4, l6])
     ·exact clause_yes (by simp) (by simp [l1, l4, l5])
     ·exact clause_yes (by simp) (by simp [l1, l3, l6])
theorem gates_good (want : List Bool) (g : List Gt) (o : List Int) (n W N : Int) (hn : 0 ≤ n) (hn2 : n ≤ 16) (hg : g.length ≤ 300) (hNn : N = n + (g.length : Int)) (d : Nat) : ∀ (i : Nat) (acc : List (List Int)), i + d = g.length → okGates (n + (i : Int)) (g.drop i) = true → acc.length ≤ 4 * i → (∀ c ∈ acc, clauseB N c = true) →
  ∃ acc' : List (List Int), (acc'.length ≤ 4 * g.length ∧ ∀ c ∈ acc', clauseB N c = true) ∧ ∀ q, spec_l6For.l0 (q + d + 1) want g (g.length : Int) (i : Int) n g o W acc = spec_l6For.l1 q want o (o.length : Int) 0 W acc' ∧ impl_CnfFor.l0 (q + d + 1) want g (g.length : Int) (i : Int) n g o W acc = impl_CnfFor.l1 q want o (o.length : Int) 0 W acc' := by
 induction d with
 | zero =>
  intro i acc hi _ ha hP;refine ⟨acc, ⟨by omega, hP⟩, fun q => ?_⟩;rw [spec_l6For.l0, impl_CnfFor.l0, if_neg (by omega), if_neg (by omega)];exact ⟨rfl, rfl⟩
 | succ d ih =>
  intro i acc hi hok ha hP;have hit : i < g.length := by omega
  have e1 : wrap64 ((i : Int) + 1) = ((i + 1 : Nat) : Int) := by rw [wrap64_id _ (by omega) (by omega)]; omega
  have ew : wrap64 ((wrap64 (n + (i : Int))) + 1) = n + (i : Int) + 1 := by rw [wrap64_id (n + (i : Int)) (by omega) (by omega), wrap64_id _ (by omega) (by omega)]
  rw [List.drop_eq_getElem_cons hit, okGates, Bool.and_eq_true] at hok;obtain ⟨c1, c2⟩ := clG_is g[i] (wrap64 ((wrap64 (n + (i : Int))) + 1));have hcg : ∀ c ∈ clG g[i] (wrap64 ((wrap64 (n + (i : Int))) + 1)), clauseB N c = true := by rw [ew]; exact clG_good g[i] (n + (i : Int)) N (by omega) (by omega) (by omega) hok.1
  obtain ⟨acc', h1, h2⟩ := ih (i + 1) (acc ++ clG g[i] (wrap64 ((wrap64 (n + (i : Int))) + 1))) (by omega) (by rw [show n + ((i + 1 : Nat) : Int) = n + (i : Int) + 1 by omega]; exact hok.2) (by rw [List.length_append]; omega) (fun c hc => (List.mem_append.1 hc).elim (hP c) (hcg c));refine ⟨acc', h1, fun q => ?_⟩;rw [show q + (d + 1) + 1 = (q + d + 1) + 1 by omega, spec_step (q + d + 1) want g o n W acc i hit hn hn2 hg hok.1 (by omega), impl_CnfFor.l0, if_pos (by omega), if_pos (by omega), if_pos (by omega), rdGt_at hit, c1, Option.bind_some, if_pos (by omega), e1];exact h2 q
theorem for_cond (n : Int) (g : List Gt) (o : List Int) (h : okCirc n g o = true) (h1 : o.length = 1) : 0 ≤ n ∧ n ≤ n + (g.length : Int) ∧ ∃ C, cnfB (n + (g.length : Int)) C = true ∧ ∀ k, 3000 ≤ k → impl_CnfFor.f k n g o [true] = some (n + (g.length : Int), C, true) ∧ spec_l6For.f k n g o [true] = some (n + (g.length : Int), C) := by
 have h' := h;unfold okCirc at h';rw [Bool.and_eq_true, Bool.and_eq_true] at h';obtain ⟨hs, hg, ho⟩ := h';obtain ⟨b1, b2, b3, b4⟩ := of_decide_eq_true hs;obtain ⟨acc, ⟨ha, hP⟩, hl⟩ := gates_good [true] g o n (n + (g.length : Int)) (n + (g.length : Int)) b1 b2 b3 rfl g.length 0 [] (by omega) (by rw [List.drop_zero, show n + ((0 : Nat) : Int) = n by omega]; exact hg) (by simp) (by simp);obtain ⟨x, hx⟩ : ∃ x, o = [x] := by
  match o, h1 with
  | [x], _ => exact ⟨x, rfl⟩
 subst hx;have hxb := below_is (List.all_eq_true.mp ho x (by simp));have hwi : wrap64 (n + (g.length : Int)) = n + (g.length : Int) := wrap64_id _ (by omega) (by omega);have hrd : rd [x] 0 = x := rfl;have hbd : rdOf false [true] 0 = true := rfl;have hx1 : wrap64 (x + 1) = x + 1 := wrap64_id _ (by omega) (by omega);have hone : ∀ q, spec_l6For.l1 (q + 2) [true] [x] 1 0 (n + (g.length : Int)) acc = some (n + (g.length : Int), acc ++ [[x + 1]]) ∧ impl_CnfFor.l1 (q + 2) [true] [x] 1 0 (n + (g.length : Int)) acc = (impl_GoodCnf.f (n + (g.length : Int)) (acc ++ [[x + 1]])).bind fun t => if t = true then some (n + (g.length : Int), acc ++ [[x + 1]], true) else some (0, ([] : List (List Int)), false) := fun q => by
  have w1 : wrap64 (0 + 1) = 1 := by rw [wrap64_id _ (by omega) (by omega)]; rfl
  constructor
  ·rw [show q + 2 = (q + 1) + 1 from rfl, spec_l6For.l1, if_pos (by decide), if_pos (by decide), if_pos (by simp), if_pos (by decide), hbd, if_pos rfl, if_pos (by omega), hrd, hx1, w1, spec_l6For.l1, if_neg (by decide)]
  ·rw [show q + 2 = (q + 1) + 1 from rfl, impl_CnfFor.l1, if_pos (by decide), if_pos (by decide), if_pos (by simp), if_pos (by decide), hbd, if_pos rfl, if_pos (by omega), hrd, hx1, w1, impl_CnfFor.l1, if_neg (by decide)]
 have hlast : clauseB (n + (g.length : Int)) [x + 1] = true := clause_yes (by simp) (fun y hy => by
  rw [List.mem_singleton] at hy;subst hy;exact lit_yes (by omega) (by omega) (by omega))
 have hcnf : cnfB (n + (g.length : Int)) (acc ++ [[x + 1]]) = true := by
  unfold cnfB;rw [decide_eq_true (show 0 ≤ n + (g.length : Int) ∧ n + (g.length : Int) ≤ 400 ∧ (acc ++ [[x + 1]]).length ≤ 1400 from ⟨by omega, by omega, by rw [List.length_append, List.length_singleton]; omega⟩), Bool.true_and, List.all_eq_true];intro c hc;rcases List.mem_append.1 hc with hc | hc
  ·exact hP c hc
  ·rw [List.mem_singleton] at hc; rw [hc]; exact hlast
 refine ⟨b1, by omega, acc ++ [[x + 1]], hcnf, fun k hk => ?_⟩;have hle : (([true] : List Bool).length : Int) = (([x] : List Int).length : Int) := rfl;have heq : ((([true] : List Bool).length : Int) != (([x] : List Int).length : Int)) = false := by rw [hle]; exact bne_self_eq_false _
 constructor
 ·obtain ⟨k, rfl⟩ : ∃ m, k = m + 1 := ⟨k - 1, by omega⟩;unfold impl_CnfFor.f;rw [implCirc_val _ _ _ _ (by omega), Option.bind_some, if_pos h, heq, impl_CnfFor.j0, if_neg (by decide)];unfold impl_Circuit_wires.f;rw [Option.bind_some, hwi];have e1 := (hl (k - g.length - 1)).2;have e2 := (hone (k - g.length - 1 - 2)).2;rw [show k - g.length - 1 + g.length + 1 = k by omega, Int.natCast_zero] at e1;rw [show k - g.length - 1 - 2 + 2 = k - g.length - 1 by omega] at e2;rw [e1, show (([x] : List Int).length : Int) = 1 from rfl, e2, implCnf_val, Option.bind_some, if_pos hcnf]
 ·unfold spec_l6For.f spec_l4Wires.f;rw [Option.bind_some, hwi];have e1 := (hl (k - g.length - 1)).1;have e2 := (hone (k - g.length - 1 - 2)).1;rw [show k - g.length - 1 + g.length + 1 = k by omega, Int.natCast_zero] at e1;rw [show k - g.length - 1 - 2 + 2 = k - g.length - 1 by omega] at e2;rw [e1, show (([x] : List Int).length : Int) = 1 from rfl, e2]
theorem budget_is (b : Int) : impl_isBudget.f b = some (decide (0 ≤ b ∧ b ≤ 300)) ∧ spec_l1In.f b 0 300 = some (decide (0 ≤ b ∧ b ≤ 300)) := by
 unfold impl_isBudget.f spec_l1In.f;by_cases h : b ≥ 0
 ·rw [if_pos h, decide_eq_decide.mpr (show b ≤ 300 ↔ 0 ≤ b ∧ b ≤ 300 by omega)];exact ⟨rfl, rfl⟩
 ·rw [if_neg h, decide_eq_false (show ¬ (0 ≤ b ∧ b ≤ 300) by omega)];exact ⟨rfl, rfl⟩
theorem solve_no (n : Int) (C : List (List Int)) (b : Int) (hb : ¬ (0 ≤ b ∧ b ≤ 300)) (h : cnfB n C = true) (k : Nat) : impl_Solve.f k n C b = some (0, [], 0, false) := by
 unfold impl_Solve.f;rw [implCnf_val, Option.bind_some, if_pos h, (budget_is b).1, Option.bind_some, decide_eq_false hb, if_neg (by decide)]
theorem solve_yes (n : Int) (C : List (List Int)) (b : Int) (hb : 0 ≤ b ∧ b ≤ 300) (h : cnfB n C = true) : ∃ code vals m, vals.length ≤ 400 ∧ (code = 1 → (vals.length : Int) = n) ∧ ∃ K, ∀ k, K ≤ k → impl_Solve.f k n C b = some (code, vals, m, true) ∧ spec_Solve.f k n C b = some (code, vals, m, true) := by
 obtain ⟨q1, q2⟩ := budget_is b;obtain ⟨b1, b2, b3, b4⟩ := cnB_is h;obtain ⟨n, rfl⟩ : ∃ m : Nat, n = (m : Int) := ⟨n.toNat, by omega⟩;have hn : n ≤ 400 := by omega
 obtain ⟨z1, z2, z3⟩ := vec0 n;obtain ⟨v0, e1, e2, e3, e4⟩ := start_is (C := C) hn (show gB (n : Int) [] [] = true from rfl);have hv0 : v0 = List.replicate (n + 1) 0 := (congrArg Prod.fst e1).symm;obtain ⟨K, code, vals, m', _, _, l3, hk⟩ := both_search h b hb.2 n [] v0 0 (by simp) rfl (e2 [] _ fun c hc => hc) (Int.le_refl _) hb.1;refine ⟨code, vals, m', by have := l3.1; omega, fun hc => by have := l3.2 hc; omega, K + 1501, fun k hk2 => ?_⟩;obtain ⟨a1, a2⟩ := hk k (by omega);rw [Int.sub_zero] at a1;unfold impl_Solve.f spec_Solve.f;rw [implCnf_val, specCnf_val _ _ k (by omega), Option.bind_some, Option.bind_some, if_pos h, if_pos h, q1, q2, Option.bind_some, Option.bind_some, decide_eq_true hb, if_pos rfl, if_pos rfl, a1, show ((n : Int) + 1).toNat = n + 1 by omega, ← hv0, a2];exact ⟨rfl, rfl⟩
theorem both_term (w v b : Int) (t : List Nd) (hok : okNodes t) : ∃ R : Int × List Int × Bool, R.2.1.length ≤ 1000 ∧ ∃ K, ∀ k, K ≤ k → impl_SolveTerm.f k w v t b = some R ∧ spec_SolveTerm.f k w v t b = some R := by
 obtain ⟨G, hG⟩ : ∃ G, gatesR w v t = G := ⟨_, rfl⟩;obtain ⟨n, g, o, ok⟩ := G;have hgi : ∀ k, 1000 < k → impl_GatesFor.f k w v t = some (n, g, o, ok) := fun k hk => by rw [gatesFor_impl w v t hok k hk, hG]
 have hgs : ∀ k, 1000 < k → spec_GatesFor.f k w v t = some (n, g, o, ok) := fun k hk => by rw [gatesFor_spec w v t hok k hk, hG]
 have hji : ∀ k, impl_SolveTerm.j0 (k + 1) w b true n g o = some (0, [], false) := fun k => by rw [impl_SolveTerm.j0, if_pos rfl]
 have hjs : ∀ k, spec_SolveTerm.j0 (k + 1) w b true n g o = some (0, [], false) := fun k => by rw [spec_SolveTerm.j0, if_pos rfl]
 by_cases hok2 : ok = true
 case neg =>
  refine ⟨(0, [], false), by simp, 2000, fun k hk => ?_⟩;obtain ⟨k, rfl⟩ : ∃ m, k = m + 1 := ⟨k - 1, by omega⟩;unfold impl_SolveTerm.f spec_SolveTerm.f;rw [hgi _ (by omega), hgs _ (by omega), Option.bind_some, Option.bind_some];dsimp only;rw [if_neg hok2, if_neg hok2];exact ⟨hji k, hjs k⟩
 subst hok2;have hsucc : (gatesR w v t).2.2.2 = true := by rw [hG]
 have hkind := gatesR_kind w v t hsucc;have hki : ∀ k, 400 < k → impl_kindOf.f k t = some (kindT w v t) := fun k hk => kindOf_val k w v t hkind hk;have hks : ∀ k, 400 < k → spec_l2Kind.f k w v t = some (kindT w v t) := fun k hk => l2Kind_val k w v t hok hk;by_cases h2 : kindT w v t = 2
 case neg =>
  refine ⟨(0, [], false), by simp, 2000, fun k hk => ?_⟩;obtain ⟨k, rfl⟩ : ∃ m, k = m + 1 := ⟨k - 1, by omega⟩;unfold impl_SolveTerm.f spec_SolveTerm.f;rw [hgi _ (by omega), hgs _ (by omega), Option.bind_some, Option.bind_some];dsimp only;rw [if_pos rfl, if_pos rfl, hki _ (by omega), hks _ (by omega), Option.bind_some, Option.bind_some, if_neg h2, bne_iff_ne.mpr h2];exact ⟨hji k, hjs k⟩
 have h1 : o.length = 1 := by have := gatesR_one w v t hok h2 hsucc; rw [hG] at this; exact this
 have hcirc : okCirc n g o = true := by have := gatesR_ok w v t hsucc; rw [hG] at this; exact this
 obtain ⟨n0, n1, C, hcnf, hfor⟩ := for_cond n g o hcirc h1;have hbne : (kindT w v t != 2) = false := by rw [h2]; rfl
 by_cases hb : 0 ≤ b ∧ b ≤ 300
 case neg =>
  refine ⟨(0, [], false), by simp, 4000, fun k hk => ?_⟩;obtain ⟨k, rfl⟩ : ∃ m, k = m + 1 := ⟨k - 1, by omega⟩;unfold impl_SolveTerm.f spec_SolveTerm.f;rw [hgi _ (by omega), hgs _ (by omega), Option.bind_some, Option.bind_some];dsimp only;rw [if_pos rfl, if_pos rfl, hki _ (by omega), hks _ (by omega), Option.bind_some, Option.bind_some, if_pos h2, hbne, (budget_is b).2, Option.bind_some, decide_eq_false hb];refine ⟨?_, hjs k⟩;rw [impl_SolveTerm.j0, if_neg (by decide), (hfor k (by omega)).1, Option.bind_some];dsimp only;rw [if_pos rfl, solve_no _ C b hb hcnf, Option.bind_some];dsimp only;rw [if_neg (by decide)]
 obtain ⟨code, vals, m, hv1, hv2, K, hK⟩ := solve_yes _ C b hb hcnf;by_cases hc : code = 1
 case neg =>
  refine ⟨(code, [], true), by simp, K + 4000, fun k hk => ?_⟩;obtain ⟨k, rfl⟩ : ∃ m, k = m + 1 := ⟨k - 1, by omega⟩;unfold impl_SolveTerm.f spec_SolveTerm.f;rw [hgi _ (by omega), hgs _ (by omega), Option.bind_some, Option.bind_some];dsimp only;rw [if_pos rfl, if_pos rfl, hki _ (by omega), hks _ (by omega), Option.bind_some, Option.bind_some, if_pos h2, hbne, (budget_is b).2, Option.bind_some, decide_eq_true hb];constructor
  ·rw [impl_SolveTerm.j0, if_neg (by decide), (hfor k (by omega)).1, Option.bind_some];dsimp only;rw [if_pos rfl, (hK k (by omega)).1, Option.bind_some];dsimp only;rw [if_pos rfl, if_neg hc]
  ·rw [spec_SolveTerm.j0, if_neg (by decide), (hfor k (by omega)).2, Option.bind_some];dsimp only;rw [(hK k (by omega)).2, Option.bind_some];dsimp only;rw [if_neg hc]
 have hvl := hv2 hc;have hnv : n ≤ (vals.length : Int) := by omega
 have htl : (vals.take n.toNat).length ≤ 1048576 := by rw [List.length_take]; omega
 refine ⟨(code, (sfR w (vals.take n.toNat)).1, true), by have := sfR_len w (vals.take n.toNat); show (sfR w (vals.take n.toNat)).1.length ≤ 1000; omega, K + 4000, fun k hk => ?_⟩;obtain ⟨k, rfl⟩ : ∃ m, k = m + 1 := ⟨k - 1, by omega⟩;unfold impl_SolveTerm.f spec_SolveTerm.f;rw [hgi _ (by omega), hgs _ (by omega), Option.bind_some, Option.bind_some];dsimp only;rw [if_pos rfl, if_pos rfl, hki _ (by omega), hks _ (by omega), Option.bind_some, Option.bind_some, if_pos h2, hbne, (budget_is b).2, Option.bind_some, decide_eq_true hb];constructor
 ·rw [impl_SolveTerm.j0, if_neg (by decide), (hfor k (by omega)).1, Option.bind_some];dsimp only;rw [if_pos rfl, (hK k (by omega)).1, Option.bind_some];dsimp only;rw [if_pos rfl, if_pos hc, if_pos n0, if_pos hnv, from_impl, Option.bind_some]
 ·rw [spec_SolveTerm.j0, if_neg (by decide), (hfor k (by omega)).2, Option.bind_some];dsimp only;rw [(hK k (by omega)).2, Option.bind_some];dsimp only;rw [if_pos hc, if_pos n0, if_pos hnv, from_spec w _ htl k (by omega), Option.bind_some]
theorem FnExactSolveTerm : laws_FnExactSolveTerm.Pure := by
 intro w v l b _ _ hl _;have hll := hl.1;simp only [maxLen] at hll;have hok := conv_ok l hl.2;by_cases hs : 1048576 < l.length
 ·refine ⟨0, ?_⟩;unfold laws_FnExactSolveTerm.f;rw [sz_val l (by omega), if_pos hs, Option.bind_some, if_pos (by decide)]
 have hlc : (l.map conv).length = l.length := List.length_map ..;obtain ⟨R, hR, K, hK⟩ := both_term w v b (l.map conv) hok;obtain ⟨x, y, z⟩ := R;have hy : y.length ≤ 1000 := hR;obtain ⟨T, hT⟩ : ∃ T, l.map conv = T := ⟨_, rfl⟩
 rw [hT] at hlc hK;obtain ⟨m, hm⟩ : ∃ m, m = K + l.length + 5000 := ⟨_, rfl⟩;have hto : ∀ k, m ≤ k → laws_toNodeS.f k l = some T := fun k hk => by rw [toNodes_val k l (by omega) (by omega), hT]
 have hen : ∀ k, m ≤ k → laws_eqNodeS.f k T T = some true := fun k hk => eqNodes_val k T (by omega) (by omega);have hkk : ∀ k, m ≤ k → impl_SolveTerm.f k w v T b = some (x, y, z) ∧ spec_SolveTerm.f k w v T b = some (x, y, z) := fun k hk => hK k (by omega);have hey : ∀ k, m ≤ k → laws_eqUint64S.f k y y = some true := fun k hk => eqUint64_val k y (by omega) (by omega);have hmn : ∀ k, m ≤ k → laws_markNodeS.f k T 1 = some (1 + 2 * (T.length : Int), mkNode 1 T.length) := fun k hk => markNode_val k 1 (by decide) (by decide) T (by omega) (by omega);have hmu : ∀ k, m ≤ k → laws_markUint64S.f k y 1 = some (1 + 1 * (y.length : Int), mkUint64 1 y.length) := fun k hk => markUint64_val k 1 (by decide) (by decide) y (by omega) (by omega);have hhu : ∀ k, m ≤ k → laws_heldUint64S.f k (mkUint64 1 y.length) 1 = some (1 + 1 * (y.length : Int)) := fun k hk => heldUint64_val k 1 (by decide) (by decide) y.length (by omega) (by omega);have hbb : ∀ b : Bool, (b != b) = false := fun b => by cases b <;> rfl
 have hj2 : ∀ k, m ≤ k → laws_FnExactSolveTerm.j2 (k + 1) (mkUint64 1 y.length) (1 + 1 * (y.length : Int)) false = some true := fun k hk => by
  rw [laws_FnExactSolveTerm.j2, if_neg (by decide), hhu k hk, Option.bind_some, if_neg (by omega), if_pos rfl]
 have hj1 : ∀ k, m ≤ k → laws_FnExactSolveTerm.j1 (k + 2) w v l b x y z y false = some true := fun k hk => by
  rw [laws_FnExactSolveTerm.j1, if_neg (by decide), hmu _ (by omega), Option.bind_some];dsimp only;rw [hhu _ (by omega), Option.bind_some, if_neg (by omega), if_pos rfl, hto _ (by omega), Option.bind_some, (hkk _ (by omega)).1, Option.bind_some];dsimp only;rw [if_pos rfl, hey _ (by omega), Option.bind_some, if_pos rfl, hbb];exact hj2 k hk
 refine ⟨m + 3, ?_⟩;unfold laws_FnExactSolveTerm.f;rw [sz_val l (by omega), if_neg hs, Option.bind_some, if_neg (by omega), hto _ (by omega), Option.bind_some, (hkk _ (by omega)).2, Option.bind_some];dsimp only;rw [Option.bind_some, (hkk _ (by omega)).1, Option.bind_some];dsimp only;rw [if_pos rfl, hey _ (by omega), Option.bind_some, if_pos rfl, hbb, laws_FnExactSolveTerm.j0, if_neg (by decide), hto _ (by omega), Option.bind_some, hen _ (by omega), Option.bind_some, if_pos rfl, hmn _ (by omega), Option.bind_some];dsimp only;rw [if_neg (by omega), if_pos rfl, hey _ (by omega), Option.bind_some, if_pos rfl, hbb];exact hj1 m (Nat.le_refl _)
end Go.Proofs.YtgdmdaalmoioeaaGreat.Pure
