/- Bits of 64-bit words as the model tells them: and, or, xor, shifts and masks as remainders and powers of two. No condition. The laws' own list functions (copying, comparing, measuring, writing over, looking again) come to plain lists. Conditions: lists no longer than 2^20. Written by wip/xp/lists.py. The law on GoodCnf: both sides come to one plain test of the clauses. Conditions: those of the law's own Pure. Unit propagation in plain lists: what is derivable, what a sign vector makes true, and that two ends of any two runs agree. Conditions: literals of clauses have names 1 to n. Unit propagation as the program does it, with a queue and lists of clauses: it comes to a run's end. Conditions: good clauses, good given literals. Unit propagation as the reference does it, pass by pass over all clauses: it comes to a run's end. Conditions: good clauses, a vector that a run can begin with. The laws' own list functions (copying, comparing, measuring, writing over, looking again) come to plain lists. Conditions: lists no longer than 2^20. Written by wip/xp/lists.py. The law on Forced: both sides come to a run's end, and the ends agree. Conditions: those of the law's own Pure. -/
import Derived.Test.YtdmngodinbelfaaWMore
import Derived.Laws.BitsLemmas
import Derived.Test.YtdmngodinbelfaaXO
import Derived.Test.YtdmngodinbelfaaX1
import Derived.Test.YtdmngodinbelfaaX7
import Derived.Test.YtdmngodinbelfaaX19
import Derived.Test.YtdmngodinbelfaaX20
import Derived.Test.YtdmngodinbelfaaX21
import Derived.Test.YtdmngodinbelfaaX26
import Derived.Test.YtdmngodinbelfaaX28
import Derived.Test.YtdmngodinbelfaaX3
import Derived.Test.YtdmngodinbelfaaX31
import Derived.Test.YtdmngodinbelfaaX33
namespace Go.Proofs.Ytdmngodinbelfaa.Bits
open Go.RowKit Go.Proofs.YtdmngodinbelfaaW.PrintWords

theorem wrap_u64 (n : Int) : IntKind.u64.wrap n = n % 18446744073709551616 := by simp [IntKind.wrap, IntKind.bits, IntKind.signed]
theorem wraps_u64 (n : Int) (h₀ : 0 ≤ n) (h₁ : n < 2 ^ 64) : IntKind.u64.wrap n = n := by rw [wrap_u64]; omega
theorem u64_id (n : Int) (h₀ : 0 ≤ n) (h₁ : n < 18446744073709551616) : IntKind.u64.wrap n = n := by rw [wrap_u64]; omega
theorem u64_range (n : Int) : 0 ≤ IntKind.u64.wrap n ∧ IntKind.u64.wrap n < 18446744073709551616 := by rw [wrap_u64]; omega
theorem and_u64 (a b : Nat) (ha : a < 2 ^ 64) (hb : b < 2 ^ 64) : Go.bits .and .u64 a b = ((a &&& b : Nat) : Int) := (bits_nat .u64 64 (by decide) wraps_u64 a b ha hb).1
theorem or_u64 (a b : Nat) (ha : a < 2 ^ 64) (hb : b < 2 ^ 64) : Go.bits .or .u64 a b = ((a ||| b : Nat) : Int) := (bits_nat .u64 64 (by decide) wraps_u64 a b ha hb).2
theorem xor_nat (k : IntKind) (j : Nat) (hj : j ≤ k.bits) (hk : ∀ n : Int, 0 ≤ n → n < 2 ^ j → k.wrap n = n) (a b : Nat) (ha : a < 2 ^ j) (hb : b < 2 ^ j) :
    Go.bits .xor k a b = ((a ^^^ b : Nat) : Int) := by
  have hp : 2 ^ j ≤ 2 ^ k.bits := Nat.pow_le_pow_right (by decide) hj
  have ha' : a % 2 ^ k.bits = a := Nat.mod_eq_of_lt (Nat.lt_of_lt_of_le ha hp)
  have hb' : b % 2 ^ k.bits = b := Nat.mod_eq_of_lt (Nat.lt_of_lt_of_le hb hp)
  show k.wrap ((BitVec.ofInt k.bits (a : Int) ^^^ BitVec.ofInt k.bits (b : Int)).toNat : Int) = _
  rw [BitVec.ofInt_natCast, BitVec.ofInt_natCast, BitVec.toNat_xor, BitVec.toNat_ofNat, BitVec.toNat_ofNat, ha', hb']
  have h := Int.ofNat_lt.mpr (Nat.xor_lt_two_pow ha hb)
  rw [Int.natCast_pow] at h
  exact hk _ (Int.natCast_nonneg _) h
theorem xor_u64 (a b : Nat) (ha : a < 2 ^ 64) (hb : b < 2 ^ 64) : Go.bits .xor .u64 a b = ((a ^^^ b : Nat) : Int) := xor_nat .u64 64 (by decide) wraps_u64 a b ha hb
theorem bits_range (op : BinOp) (a b : Int) : 0 ≤ Go.bits op .u64 a b ∧ Go.bits op .u64 a b < 18446744073709551616 := by
  unfold Go.bits; exact u64_range _
theorem wf_i64 {a : Int} (h : (Lit.int .i64 a).wf = true) : -9223372036854775808 ≤ a ∧ a ≤ 9223372036854775807 := by
  simpa [Lit.wf, IntKind.min, IntKind.max, IntKind.signed, IntKind.bits] using h
theorem wf_u64 {a : Int} (h : (Lit.int .u64 a).wf = true) : 0 ≤ a ∧ a < 18446744073709551616 := by
  have : 0 ≤ a ∧ a ≤ 18446744073709551615 := by
    simpa [Lit.wf, IntKind.min, IntKind.max, IntKind.signed, IntKind.bits] using h
  omega
theorem wrap64_id (n : Int) (h0 : -9223372036854775808 ≤ n) (h1 : n ≤ 9223372036854775807) : wrap64 n = n := by unfold wrap64; omega

theorem pow_le (n : Nat) (h : n ≤ 64) : (2 : Int) ^ n ≤ 18446744073709551616 := by
  have h2 := Int.ofNat_le.mpr (Nat.pow_le_pow_right (n := 2) (by decide) h)
  rw [Int.natCast_pow] at h2
  exact h2
theorem pow_pos (n : Nat) : (0 : Int) < 2 ^ n := Int.pow_pos (by decide)

theorem shl_one (k : Nat) (h : k < 64) : shl .u64 1 (k : Int) = ((2 ^ k : Nat) : Int) := by
  have hb : IntKind.u64.bits = 64 := rfl
  unfold shl
  rw [hb, Int.toNat_natCast, Nat.min_eq_left (by omega), Int.one_mul, wraps_u64]
  · simp
  · exact Int.le_of_lt (Int.pow_pos (by decide))
  · exact_mod_cast Nat.pow_lt_pow_right (by decide) h
theorem mod_or_and (a k : Nat) : (a % 2 ^ k) ||| (a &&& 2 ^ k) = a % 2 ^ (k + 1) := by
  apply Nat.eq_of_testBit_eq
  intro i
  simp only [Nat.testBit_or, Nat.testBit_mod_two_pow, Nat.testBit_and, Nat.testBit_two_pow]
  by_cases h : i < k
  · have h2 : ¬ k = i := by omega
    have h3 : i < k + 1 := by omega
    simp [h, h2, h3]
  · by_cases h2 : k = i
    · subst h2; simp
    · have h3 : ¬ i < k + 1 := by omega
      simp [h, h2, h3]
/-- One round of the lower bits, bit by bit. -/
theorem cut_step (a : Int) (k : Nat) (h0 : 0 ≤ a) (ha : a < 18446744073709551616) (hk : k < 64) :
    Go.bits .or .u64 (a % 2 ^ k) (Go.bits .and .u64 a (shl .u64 1 (k : Int))) = a % 2 ^ (k + 1) := by
  obtain ⟨n, rfl⟩ := Int.eq_ofNat_of_zero_le h0
  have hn : n < 2 ^ 64 := by omega
  have e1 : ((n : Int) % 2 ^ k) = ((n % 2 ^ k : Nat) : Int) := by simp
  have e2 : ((n : Int) % 2 ^ (k + 1)) = ((n % 2 ^ (k + 1) : Nat) : Int) := by simp
  rw [e1, e2, shl_one k hk, and_u64 n _ hn (Nat.pow_lt_pow_right (by decide) hk), or_u64 _ _ (Nat.lt_of_le_of_lt (Nat.mod_le _ _) hn) (Nat.and_lt_two_pow _ (Nat.pow_lt_pow_right (by decide) hk)), mod_or_and]
theorem mask_val (w : Int) (h0 : 1 ≤ w) (h1 : w ≤ 64) : shr .u64 18446744073709551615 (64 - w) = 2 ^ w.toNat - 1 := by
  obtain ⟨n, rfl⟩ := Int.eq_ofNat_of_zero_le (show 0 ≤ w by omega)
  have hb : IntKind.u64.bits = 64 := rfl
  unfold shr
  rw [hb, Int.toNat_natCast, Nat.min_eq_left (by omega)]
  have e : (64 - (n : Int)).toNat = 64 - n := by omega
  rw [e]
  have hn : n ≤ 64 := by omega
  have hp : 0 < n := by omega
  have h2 : 2 ^ (64 - n) * 2 ^ n = 2 ^ 64 := by rw [← Nat.pow_add]; congr 1; omega
  have hx : 0 < 2 ^ (64 - n) := Nat.two_pow_pos _
  have hy : 0 < 2 ^ n := Nat.two_pow_pos _
  have h3 : (18446744073709551615 : Nat) / 2 ^ (64 - n) = 2 ^ n - 1 := by
    rw [Nat.div_eq_iff hx]
    have h4 : (2 ^ n - 1) * 2 ^ (64 - n) = 2 ^ 64 - 2 ^ (64 - n) := by rw [Nat.sub_mul, Nat.mul_comm, h2]; omega
    have h5 : 2 ^ (64 - n) ≤ 2 ^ 64 := Nat.pow_le_pow_right (by decide) (by omega)
    rw [h4]
    omega
  have h6 : (18446744073709551615 : Int) / 2 ^ (64 - n) = (((18446744073709551615 : Nat) / 2 ^ (64 - n) : Nat) : Int) := by simp
  rw [h6, h3, Int.natCast_sub hy]
  simp
theorem and_mask (a : Int) (n : Nat) (h0 : 0 ≤ a) (ha : a < 18446744073709551616) (hn : n ≤ 64) : Go.bits .and .u64 a (2 ^ n - 1) = a % 2 ^ n :=
  bits_mask .u64 64 (by decide) wraps_u64 n hn a h0 ha
/-- The lowest bit. -/
theorem and_one (a : Int) (h0 : 0 ≤ a) (ha : a < 18446744073709551616) : Go.bits .and .u64 a 1 = a % 2 := by
  have := and_mask a 1 h0 ha (by decide)
  simpa using this
/-- The complement. -/
theorem xor_max (a : Int) (h0 : 0 ≤ a) (ha : a < 18446744073709551616) : Go.bits .xor .u64 18446744073709551615 a = 18446744073709551615 - a := by
  obtain ⟨n, rfl⟩ := Int.eq_ofNat_of_zero_le h0
  have hn : n < 2 ^ 64 := by omega
  have := xor_u64 18446744073709551615 n (by decide) hn
  rw [show ((18446744073709551615 : Nat) : Int) = 18446744073709551615 from rfl] at this
  rw [this]
  have h2 : (18446744073709551615 : Nat) ^^^ n = 18446744073709551615 - n := by
    have e1 : (BitVec.allOnes 64 ^^^ BitVec.ofNat 64 n).toNat = 18446744073709551615 ^^^ n := by
      rw [BitVec.toNat_xor, BitVec.toNat_allOnes, BitVec.toNat_ofNat, Nat.mod_eq_of_lt hn]
    have e2 : (BitVec.allOnes 64 ^^^ BitVec.ofNat 64 n) = ~~~ BitVec.ofNat 64 n := BitVec.allOnes_xor
    rw [← e1, e2, BitVec.toNat_not, BitVec.toNat_ofNat, Nat.mod_eq_of_lt hn]
  rw [h2]
  omega
/-- A number below 2^i beside a multiple of 2^i. -/
theorem or_join (x y : Int) (i : Nat) (hi : i ≤ 64) (hx0 : 0 ≤ x) (hx : x % 2 ^ i = 0) (hx1 : x < 18446744073709551616) (hy0 : 0 ≤ y) (hy : y < 2 ^ i) : Go.bits .or .u64 x y = x + y :=
  bits_join .u64 64 (by decide) wraps_u64 i x y hx0 hx hx1 hy0 hy (by have := pow_le i hi; omega)
theorem or_comm (x y : Int) : Go.bits .or .u64 x y = Go.bits .or .u64 y x := by
  unfold Go.bits; simp only [BitVec.or_comm]
theorem or_join' (x y : Int) (i : Nat) (hi : i ≤ 64) (hx0 : 0 ≤ x) (hx : x % 2 ^ i = 0) (hx1 : x < 18446744073709551616) (hy0 : 0 ≤ y) (hy : y < 2 ^ i) : Go.bits .or .u64 y x = y + x := by
  rw [or_comm, or_join x y i hi hx0 hx hx1 hy0 hy, Int.add_comm]
/-- The words of a width. -/
def word (w a : Int) : Prop := 1 ≤ w ∧ w ≤ 64 ∧ 0 ≤ a ∧ a < 2 ^ w.toNat
instance (w a : Int) : Decidable (word w a) := by unfold word; infer_instance
theorem pow_split (w : Int) (h0 : 1 ≤ w) (h1 : w ≤ 64) : (2 : Int) ^ (64 - w).toNat * 2 ^ w.toNat = 18446744073709551616 := by
  rw [← Int.pow_add, show (64 - w).toNat + w.toNat = 64 by omega]; decide
theorem pow_half (w : Int) (h0 : 1 ≤ w) : (2 : Int) ^ w.toNat = 2 * 2 ^ (w - 1).toNat := by
  rw [show w.toNat = (w - 1).toNat + 1 by omega, Int.pow_succ]; omega
/-- The two's complement value. -/
def sgn (w a : Int) : Int := if a < 2 ^ (w - 1).toNat then a else a - 2 ^ w.toNat
end Go.Proofs.Ytdmngodinbelfaa.Bits

namespace Go.Proofs.Ytdmngodinbelfaa.Pure
open Go.RowKit Go.Proofs.Ytdmngodinbelfaa.X Go.Proofs.YtdmngodinbelfaaW.PrintWords Go.Proofs.YtdmngodinbelfaaW.PrintLast Go.Proofs.YtdmngodinbelfaaW.PrintMore Go.Proofs.Ytdmngodinbelfaa.Bits
theorem set_mid {α : Type} (a b : List α) (x y : α) (n : Nat) (h : n = a.length) : (a ++ x :: b).set n y = a ++ y :: b := by
  subst h; simp
theorem rdInt_at {t : List Int} {i : Nat} (h : i < t.length) : rd t (i : Int) = t[i] := by
  unfold rd
  rw [Int.toNat_natCast, List.getD_eq_getElem?_getD, List.getElem?_eq_getElem h]; rfl
theorem szInt_val (l : List Int) (left : Int) (h0 : 0 ≤ left) (h1 : left ≤ 1048576) (hl : l.length ≤ 9223372036854775807) : laws_szIntS.f l left = some (if left < (l.length : Int) then -1 else left - (l.length : Int)) := by
  unfold laws_szIntS.f
  rw [wrap64_id _ (by omega) (by omega)]
  by_cases h : left < (l.length : Int)
  · rw [if_pos (by omega), if_pos h]
  · rw [if_neg (by omega), if_neg h]
theorem toInt_loop (l : List Int) (hl : l.length ≤ 1048576) (d : Nat) : ∀ (i : Nat) (k : Nat), i + d = l.length → d < k →
    laws_toIntS.l0 k l ((l.take i) ++ List.replicate d 0) (i : Int) = some (l) := by
  induction d with
  | zero =>
    intro i k hi hk
    obtain ⟨k, rfl⟩ : ∃ m, k = m + 1 := ⟨k - 1, by omega⟩
    simp only [laws_toIntS.l0]
    rw [if_neg (by omega), List.take_of_length_le (by omega)]
    simp
  | succ d ih =>
    intro i k hi hk
    obtain ⟨k, rfl⟩ : ∃ m, k = m + 1 := ⟨k - 1, by omega⟩
    have hit : i < l.length := by omega
    have e1 : wrap64 ((i : Int) + 1) = ((i + 1 : Nat) : Int) := by rw [wrap64_id _ (by omega) (by omega)]; omega
    simp only [laws_toIntS.l0]
    rewrite [if_pos (by omega), if_pos (by omega)]
    rewrite [if_pos (by simp; omega), rdInt_at hit, e1, Int.toNat_natCast, List.replicate_succ, set_mid _ _ _ _ _ (by simp; omega)]
    have h2 : (l.take i) ++ l[i] :: List.replicate d 0 = (l.take (i + 1)) ++ List.replicate d 0 := by
      rw [List.take_add_one, List.getElem?_eq_getElem hit, Option.toList_some, List.append_assoc]
      rfl
    rewrite [h2]
    exact ih (i + 1) k (by omega) (by omega)
theorem toInt_val (k : Nat) (l : List Int) (hl : l.length ≤ 1048576) (hk : l.length < k) : laws_toIntS.f k l = some (l) := by
  unfold laws_toIntS.f
  rw [if_pos (by omega), Int.toNat_natCast, if_pos (by omega)]
  have := toInt_loop l hl l.length 0 k (by omega) hk
  simpa using this
theorem eqInt_loop (l : List Int) (hl : l.length ≤ 1048576) (d : Nat) : ∀ (i : Nat) (k : Nat), i + d = l.length → d < k → laws_eqIntS.l0 k l l (i : Int) = some true := by
  induction d with
  | zero =>
    intro i k hi hk
    obtain ⟨k, rfl⟩ : ∃ m, k = m + 1 := ⟨k - 1, by omega⟩
    simp only [laws_eqIntS.l0]
    rw [if_neg (by omega)]
  | succ d ih =>
    intro i k hi hk
    obtain ⟨k, rfl⟩ : ∃ m, k = m + 1 := ⟨k - 1, by omega⟩
    have e1 : wrap64 ((i : Int) + 1) = ((i + 1 : Nat) : Int) := by rw [wrap64_id _ (by omega) (by omega)]; omega
    simp only [laws_eqIntS.l0]
    rewrite [if_pos (by omega), if_pos (by omega), if_pos (by omega)]
    rewrite [if_pos trivial]
    rewrite [e1]
    exact ih (i + 1) k (by omega) (by omega)
theorem eqInt_val (k : Nat) (l : List Int) (hl : l.length ≤ 1048576) (hk : l.length < k) : laws_eqIntS.f k l l = some true := by
  unfold laws_eqIntS.f
  rw [if_pos rfl]
  exact eqInt_loop l hl l.length 0 k (by omega) hk

end Go.Proofs.Ytdmngodinbelfaa.Pure

namespace Go.Proofs.Ytdmngodinbelfaa.Pure
open Go.RowKit Go.Proofs.Ytdmngodinbelfaa.X Go.Proofs.YtdmngodinbelfaaW.PrintWords Go.Proofs.YtdmngodinbelfaaW.PrintLast Go.Proofs.YtdmngodinbelfaaW.PrintMore Go.Proofs.Ytdmngodinbelfaa.Bits
theorem rdL_at {α : Type} {t : List (List α)} {i : Nat} (h : i < t.length) : t.getD ((i : Int)).toNat [] = t[i] := by
  rw [Int.toNat_natCast, List.getD_eq_getElem?_getD, List.getElem?_eq_getElem h]; rfl
theorem rdIS_at {t : List (List Int)} {i : Nat} (h : i < t.length) : rd_L1 t (i : Int) = t[i] := rdL_at h
/-- All elements of all rows. -/
def total (l : List (List Int)) : Nat := l.flatten.length
theorem total_cons (a : List Int) (l : List (List Int)) : total (a :: l) = a.length + total l := by simp [total]
theorem total_mem {a : List Int} {l : List (List Int)} (h : a ∈ l) : a.length ≤ total l := by
  induction l with
  | nil => cases h
  | cons b t ih =>
    rw [total_cons]
    rcases List.mem_cons.1 h with rfl | h
    · omega
    · have := ih h; omega
/-- Rows measured: what is left, or -1. -/
def leftS (left : Int) : List (List Int) → Int
  | [] => left
  | a :: t => if left < (a.length : Int) then -1 else leftS (left - a.length) t
theorem leftS_ok (l : List (List Int)) : ∀ left : Int, 0 ≤ left → (leftS left l = if left < (total l : Int) then -1 else left - (total l : Int)) := by
  induction l with
  | nil => intro left h; simp [leftS, total]; omega
  | cons a t ih =>
    intro left h
    rw [leftS, total_cons]
    by_cases h1 : left < (a.length : Int)
    · rw [if_pos h1, if_pos (by omega)]
    · rw [if_neg h1, ih _ (by omega)]
      by_cases h2 : left - (a.length : Int) < (total t : Int)
      · rw [if_pos h2, if_pos (by omega)]
      · rw [if_neg h2, if_neg (by omega)]; omega
theorem szSS_loop (l : List (List Int)) (hl : l.length ≤ 1048576) (hb : ∀ a ∈ l, a.length ≤ 9223372036854775807) (d : Nat) : ∀ (i k : Nat) (left : Int), i + d = l.length → d < k → 0 ≤ left → left ≤ 1048576 →
    laws_szIntSS.l0 k l left (i : Int) = some (leftS left (l.drop i)) := by
  induction d with
  | zero =>
    intro i k left hi hk h0 h1
    obtain ⟨k, rfl⟩ : ∃ m, k = m + 1 := ⟨k - 1, by omega⟩
    simp only [laws_szIntSS.l0]
    rewrite [if_neg (by omega), List.drop_eq_nil_of_le (by omega)]; rfl
  | succ d ih =>
    intro i k left hi hk h0 h1
    obtain ⟨k, rfl⟩ : ∃ m, k = m + 1 := ⟨k - 1, by omega⟩
    have hit : i < l.length := by omega
    have e1 : wrap64 ((i : Int) + 1) = ((i + 1 : Nat) : Int) := by rw [wrap64_id _ (by omega) (by omega)]; omega
    have hd : l.drop i = l[i] :: l.drop (i + 1) := List.drop_eq_getElem_cons hit
    simp only [laws_szIntSS.l0]
    rewrite [if_pos (by omega), if_pos (by omega), rdIS_at hit, szInt_val _ left h0 h1 (hb _ (List.getElem_mem hit)), hd, leftS]
    simp only [Option.bind_some]
    by_cases h2 : left < (l[i].length : Int)
    · rewrite [if_pos h2, if_pos (by decide), if_pos h2]; rfl
    · rewrite [if_neg h2, if_neg (by omega), e1, if_neg h2]
      exact ih (i + 1) k _ (by omega) (by omega) (by omega) (by omega)
/-- Whether a list of clauses is measured as small. -/
def small (l : List (List Int)) : Prop := l.length + total l ≤ 1048576
instance (l : List (List Int)) : Decidable (small l) := by unfold small; exact inferInstance
theorem szCnf_val (n : Int) (l : List (List Int)) (hl : l.length ≤ 9223372036854775807) (hb : ∀ a ∈ l, a.length ≤ 9223372036854775807) (k : Nat) (hk : small l → l.length < k) :
    small l → laws_szCnf.f k n l 1048576 = some (1048576 - (l.length : Int) - (total l : Int)) := by
  intro hs
  have hs' : l.length + total l ≤ 1048576 := hs
  unfold laws_szCnf.f laws_szIntSS.f
  rewrite [wrap64_id _ (by omega) (by omega), if_neg (by omega)]
  have := szSS_loop l (by omega) hb l.length 0 k (1048576 - (l.length : Int)) (by omega) (hk hs) (by omega) (by omega)
  rw [Int.natCast_zero, List.drop_zero, leftS_ok _ _ (by omega), if_neg (by omega)] at this
  rewrite [this]
  simp only [Option.bind_some]
  rewrite [if_neg (by omega)]
  rfl
theorem szCnf_big (n : Int) (l : List (List Int)) (hl : l.length ≤ 9223372036854775807) (hb : ∀ a ∈ l, a.length ≤ 9223372036854775807) (h : ¬ small l) : ∃ k, ∀ q, k ≤ q → laws_szCnf.f q n l 1048576 = some (-1) := by
  have hs' : ¬ (l.length + total l ≤ 1048576) := h
  refine ⟨l.length + 1, fun q hq => ?_⟩
  unfold laws_szCnf.f laws_szIntSS.f
  rewrite [wrap64_id _ (by omega) (by omega)]
  by_cases h1 : (1048576 : Int) - (l.length : Int) < 0
  · rewrite [if_pos h1]; rfl
  · rewrite [if_neg h1]
    have := szSS_loop l (by omega) hb l.length 0 q (1048576 - (l.length : Int)) (by omega) (by omega) (by omega) (by omega)
    rw [Int.natCast_zero, List.drop_zero, leftS_ok _ _ (by omega), if_pos (by omega)] at this
    rewrite [this]; rfl
theorem toSS_loop (l : List (List Int)) (hl : l.length ≤ 1048576) (ht : total l ≤ 1048576) (d : Nat) : ∀ (i k : Nat), i + d = l.length → d + total l < k →
    laws_toIntSS.l0 k l (l.take i ++ List.replicate d []) (i : Int) = some l := by
  induction d with
  | zero =>
    intro i k hi hk
    obtain ⟨k, rfl⟩ : ∃ m, k = m + 1 := ⟨k - 1, by omega⟩
    simp only [laws_toIntSS.l0]
    rewrite [if_neg (by omega), List.take_of_length_le (by omega)]; simp
  | succ d ih =>
    intro i k hi hk
    obtain ⟨k, rfl⟩ : ∃ m, k = m + 1 := ⟨k - 1, by omega⟩
    have hit : i < l.length := by omega
    have e1 : wrap64 ((i : Int) + 1) = ((i + 1 : Nat) : Int) := by rw [wrap64_id _ (by omega) (by omega)]; omega
    have hm := total_mem (List.getElem_mem hit)
    simp only [laws_toIntSS.l0]
    rewrite [if_pos (by omega), if_pos (by omega), rdIS_at hit, toInt_val k _ (by omega) (by omega)]
    simp only [Option.bind_some]
    rewrite [if_pos (by simp; omega), e1, Int.toNat_natCast, List.replicate_succ, set_mid _ _ _ _ _ (by simp; omega)]
    have h2 : l.take i ++ l[i] :: List.replicate d [] = l.take (i + 1) ++ List.replicate d [] := by
      rw [List.take_add_one, List.getElem?_eq_getElem hit, Option.toList_some, List.append_assoc]; rfl
    rewrite [h2]
    exact ih (i + 1) k (by omega) (by omega)
theorem toCnf_val (k : Nat) (n : Int) (l : List (List Int)) (h : small l) (hk : l.length + total l < k) : laws_toCnf.f k n l = some (n, l) := by
  have hs' : l.length + total l ≤ 1048576 := h
  unfold laws_toCnf.f laws_toIntSS.f
  rewrite [if_pos (by omega), Int.toNat_natCast, if_pos (by omega)]
  have := toSS_loop l (by omega) (by omega) l.length 0 k (by omega) (by omega)
  rw [List.take_zero, List.nil_append, Int.natCast_zero] at this
  rewrite [this]
  rfl
theorem eqSS_loop (l : List (List Int)) (hl : l.length ≤ 1048576) (ht : total l ≤ 1048576) (d : Nat) : ∀ (i k : Nat), i + d = l.length → d + total l < k → laws_eqIntSS.l0 k l l (i : Int) = some true := by
  induction d with
  | zero =>
    intro i k hi hk
    obtain ⟨k, rfl⟩ : ∃ m, k = m + 1 := ⟨k - 1, by omega⟩
    simp only [laws_eqIntSS.l0]
    rewrite [if_neg (by omega)]; rfl
  | succ d ih =>
    intro i k hi hk
    obtain ⟨k, rfl⟩ : ∃ m, k = m + 1 := ⟨k - 1, by omega⟩
    have hit : i < l.length := by omega
    have e1 : wrap64 ((i : Int) + 1) = ((i + 1 : Nat) : Int) := by rw [wrap64_id _ (by omega) (by omega)]; omega
    have hm := total_mem (List.getElem_mem hit)
    simp only [laws_eqIntSS.l0]
    rewrite [if_pos (by omega), if_pos (by omega), if_pos (by omega), rdIS_at hit, eqInt_val k _ (by omega) (by omega)]
    simp only [Option.bind_some]
    rewrite [if_pos trivial, e1]
    exact ih (i + 1) k (by omega) (by omega)
theorem eqCnf_val (k : Nat) (n : Int) (l : List (List Int)) (h : small l) (hk : l.length + total l < k) : laws_eqCnf.f k n l n l = some true := by
  have hs' : l.length + total l ≤ 1048576 := h
  unfold laws_eqCnf.f laws_eqIntSS.f
  rewrite [if_pos rfl, if_pos rfl]
  have := eqSS_loop l (by omega) (by omega) l.length 0 k (by omega) (by omega)
  rw [Int.natCast_zero] at this
  rewrite [this]
  rfl
/-- A literal of so many names. -/
def litB (n x : Int) : Bool := decide (x ≠ 0 ∧ -n ≤ x ∧ x ≤ n)
def clauseB (n : Int) (l : List Int) : Bool := decide (l.length ≤ 8) && l.all (litB n)
/-- A good set of clauses. -/
def cnfB (n : Int) (l : List (List Int)) : Bool := decide (0 ≤ n ∧ n ≤ 400 ∧ l.length ≤ 1400) && l.all (clauseB n)
theorem isLiteral_val (x n : Int) (h0 : 0 ≤ n) (h1 : n ≤ 400) : impl_isLiteral.f x n = some (litB n x) := by
  unfold impl_isLiteral.f litB
  rewrite [wrap64_id _ (by omega) (by omega)]
  by_cases h : x = 0
  · rewrite [if_pos h, decide_eq_false (by omega)]; rfl
  · rewrite [if_neg h]
    by_cases h2 : x ≥ -n
    · rewrite [if_pos h2]; congr 1; exact decide_eq_decide.mpr (by omega)
    · rewrite [if_neg h2, decide_eq_false (by omega)]; rfl
theorem clauseAny_val (n : Int) (h0 : 0 ≤ n) (h1 : n ≤ 400) (l : List Int) : impl_isClause_any.f l n = some (!(l.all (litB n))) := by
  unfold impl_isClause_any.f
  induction l with
  | nil => rfl
  | cons x t ih =>
    have hp : impl_isClause_any.p n x = some (!(litB n x)) := by unfold impl_isClause_any.p; rw [isLiteral_val x n h0 h1]; rfl
    unfold impl_isClause_any.any
    rewrite [hp]
    simp only [Option.bind_some]
    rewrite [List.all_cons]
    cases hb : litB n x with
    | false => rfl
    | true => rewrite [if_neg (by decide), ih]; rfl
theorem isClause_val (n : Int) (h0 : 0 ≤ n) (h1 : n ≤ 400) (l : List Int) : impl_isClause.f l n = some (clauseB n l) := by
  unfold impl_isClause.f clauseB
  by_cases h : (l.length : Int) ≤ 8
  · rewrite [if_pos h, clauseAny_val n h0 h1, decide_eq_true (show l.length ≤ 8 by omega)]
    simp only [Option.bind_some, Bool.not_not, Bool.true_and]
  · rewrite [if_neg h, decide_eq_false (show ¬ l.length ≤ 8 by omega)]; rfl
theorem implCnf_val (n : Int) (l : List (List Int)) : impl_GoodCnf.f n l = some (cnfB n l) := by
  unfold impl_GoodCnf.f cnfB
  by_cases h0 : n < 0
  · rewrite [if_pos h0, decide_eq_false (by omega)]; rfl
  · rewrite [if_neg h0]
    by_cases h1 : n > 400
    · rewrite [if_pos h1, decide_eq_false (by omega)]; rfl
    · rewrite [if_neg h1]
      by_cases h2 : (l.length : Int) > 1400
      · rewrite [if_pos h2, decide_eq_false (by omega)]; rfl
      · rewrite [if_neg h2, decide_eq_true (by omega)]
        have hany : impl_GoodCnf_any.f l n = some (!(l.all (clauseB n))) := by
          unfold impl_GoodCnf_any.f
          clear h2
          induction l with
          | nil => rfl
          | cons x t ih =>
            have hp : impl_GoodCnf_any.p n x = some (!(clauseB n x)) := by unfold impl_GoodCnf_any.p; rw [isClause_val n (by omega) (by omega) x]; rfl
            unfold impl_GoodCnf_any.any
            rewrite [hp]
            simp only [Option.bind_some]
            rewrite [List.all_cons]
            cases hb : clauseB n x with
            | false => rfl
            | true => rewrite [if_neg (by decide), ih]; rfl
        rewrite [hany]
        simp only [Option.bind_some, Bool.not_not, Bool.true_and]
theorem l1In_lit (x n : Int) (h0 : 0 ≤ n) (h1 : n ≤ 400) : spec_l1In.f x (wrap64 (-n)) n = some (decide (-n ≤ x ∧ x ≤ n)) := by
  unfold spec_l1In.f
  rewrite [wrap64_id _ (by omega) (by omega)]
  by_cases h : x ≥ -n
  · rewrite [if_pos h]; congr 1; exact decide_eq_decide.mpr (by omega)
  · rewrite [if_neg h, decide_eq_false (by omega)]; rfl
theorem specClause_loop (n : Int) (h0 : 0 ≤ n) (h1 : n ≤ 400) (l : List Int) (hl : l.length ≤ 8) (d : Nat) : ∀ (i k : Nat), i + d = l.length → d < k → spec_l6Clause.l0 k n l (l.length : Int) (i : Int) = some ((l.drop i).all (litB n)) := by
  induction d with
  | zero =>
    intro i k hi hk
    obtain ⟨k, rfl⟩ : ∃ m, k = m + 1 := ⟨k - 1, by omega⟩
    simp only [spec_l6Clause.l0]
    rewrite [if_neg (by omega), List.drop_eq_nil_of_le (by omega)]; rfl
  | succ d ih =>
    intro i k hi hk
    obtain ⟨k, rfl⟩ : ∃ m, k = m + 1 := ⟨k - 1, by omega⟩
    have hit : i < l.length := by omega
    have e1 : wrap64 ((i : Int) + 1) = ((i + 1 : Nat) : Int) := by rw [wrap64_id _ (by omega) (by omega)]; omega
    have hd : l.drop i = l[i] :: l.drop (i + 1) := List.drop_eq_getElem_cons hit
    simp only [spec_l6Clause.l0]
    rewrite [if_pos (by omega), if_pos (by omega), if_pos (by omega), rdInt_at hit, hd, List.all_cons]
    by_cases h2 : l[i] = 0
    · have e : litB n l[i] = false := decide_eq_false (by omega)
      rewrite [if_pos h2, e]; rfl
    · rewrite [if_neg h2, l1In_lit _ n h0 h1]
      simp only [Option.bind_some, decide_eq_true_eq]
      by_cases h3 : -n ≤ l[i] ∧ l[i] ≤ n
      · have e : litB n l[i] = true := decide_eq_true ⟨h2, h3.1, h3.2⟩
        rewrite [if_pos h3, e1, ih (i + 1) k (by omega) (by omega), e]; rfl
      · have e : litB n l[i] = false := decide_eq_false (by omega)
        rewrite [if_neg h3, e]; rfl
theorem specClause_val (n : Int) (h0 : 0 ≤ n) (h1 : n ≤ 400) (l : List Int) (k : Nat) (hk : 10 < k) : spec_l6Clause.f k n l = some (clauseB n l) := by
  unfold spec_l6Clause.f clauseB
  by_cases h : (l.length : Int) > 8
  · rewrite [if_pos h, decide_eq_false (show ¬ l.length ≤ 8 by omega)]; rfl
  · have := specClause_loop n h0 h1 l (by omega) l.length 0 k (by omega) (by omega)
    rw [Int.natCast_zero, List.drop_zero] at this
    rewrite [if_neg h, decide_eq_true (show l.length ≤ 8 by omega), this]; rfl
theorem specCnf_loop (n : Int) (h0 : 0 ≤ n) (h1 : n ≤ 400) (l : List (List Int)) (hl : l.length ≤ 1400) (d : Nat) : ∀ (i k : Nat), i + d = l.length → d + 20 < k → spec_GoodCnf.l0 k l (l.length : Int) (i : Int) n l = some ((l.drop i).all (clauseB n)) := by
  induction d with
  | zero =>
    intro i k hi hk
    obtain ⟨k, rfl⟩ : ∃ m, k = m + 1 := ⟨k - 1, by omega⟩
    simp only [spec_GoodCnf.l0]
    rewrite [if_neg (by omega), List.drop_eq_nil_of_le (by omega)]; rfl
  | succ d ih =>
    intro i k hi hk
    obtain ⟨k, rfl⟩ : ∃ m, k = m + 1 := ⟨k - 1, by omega⟩
    have hit : i < l.length := by omega
    have e1 : wrap64 ((i : Int) + 1) = ((i + 1 : Nat) : Int) := by rw [wrap64_id _ (by omega) (by omega)]; omega
    have hd : l.drop i = l[i] :: l.drop (i + 1) := List.drop_eq_getElem_cons hit
    simp only [spec_GoodCnf.l0]
    rewrite [if_pos (by omega), if_pos (by omega), if_pos (by omega), rdIS_at hit, specClause_val n h0 h1 _ k (by omega), hd, List.all_cons]
    simp only [Option.bind_some]
    cases hb : clauseB n l[i] with
    | false => rewrite [if_neg (by decide)]; rfl
    | true => rewrite [if_pos rfl, e1, ih (i + 1) k (by omega) (by omega)]; rfl
theorem specCnf_val (n : Int) (l : List (List Int)) (k : Nat) (hk : 1500 < k) : spec_GoodCnf.f k n l = some (cnfB n l) := by
  obtain ⟨k, rfl⟩ : ∃ m, k = m + 1 := ⟨k - 1, by omega⟩
  unfold spec_GoodCnf.f spec_l1In.f cnfB
  by_cases h0 : n ≥ 0
  · rewrite [if_pos h0]
    simp only [Option.bind_some, decide_eq_true_eq]
    by_cases h1 : n ≤ 400
    · rewrite [if_pos h1]
      simp only [spec_GoodCnf.j0, decide_eq_true_eq]
      by_cases h2 : (l.length : Int) > 1400
      · rewrite [if_pos h2, decide_eq_false (show ¬ (0 ≤ n ∧ n ≤ 400 ∧ l.length ≤ 1400) by omega)]; rfl
      · have := specCnf_loop n h0 h1 l (by omega) l.length 0 k (by omega) (by omega)
        rw [Int.natCast_zero, List.drop_zero] at this
        rewrite [if_neg h2, decide_eq_true (show 0 ≤ n ∧ n ≤ 400 ∧ l.length ≤ 1400 by omega), this]; rfl
    · rewrite [if_neg h1, decide_eq_false (show ¬ (0 ≤ n ∧ n ≤ 400 ∧ l.length ≤ 1400) by omega)]
      simp only [spec_GoodCnf.j0]; rfl
  · rewrite [if_neg h0, decide_eq_false (show ¬ (0 ≤ n ∧ n ≤ 400 ∧ l.length ≤ 1400) by omega)]
    simp only [Option.bind_some, spec_GoodCnf.j0]; rfl
end Go.Proofs.Ytdmngodinbelfaa.Pure

namespace Go.Proofs.Ytdmngodinbelfaa.Pure
open Go.RowKit Go.Proofs.Ytdmngodinbelfaa.X Go.Proofs.YtdmngodinbelfaaW.PrintWords Go.Proofs.YtdmngodinbelfaaW.PrintLast Go.Proofs.YtdmngodinbelfaaW.PrintMore Go.Proofs.Ytdmngodinbelfaa.Bits
/-- In every set that holds the given literals and what a clause forces. -/
def Der (C : List (List Int)) (G : List Int) (x : Int) : Prop :=
  ∀ S : Int → Prop, (∀ g ∈ G, S g) → (∀ c ∈ C, ∀ y ∈ c, (∀ m ∈ c, m ≠ y → S (-m)) → S y) → S x
theorem Der.giv {C : List (List Int)} {G : List Int} {x : Int} (h : x ∈ G) : Der C G x := fun _ hg _ => hg x h
theorem Der.unit {C : List (List Int)} {G : List Int} {x : Int} {c : List Int} (hc : c ∈ C) (hx : x ∈ c) (h : ∀ m ∈ c, m ≠ x → Der C G (-m)) : Der C G x :=
  fun S hg hs => hs c hc x hx fun m hm hne => h m hm hne S hg hs
def Conf (C : List (List Int)) (G : List Int) : Prop := ∃ c ∈ C, ∀ m ∈ c, Der C G (-m)
/-- A literal is true, a name has no value. -/
def tr (v : List Int) (x : Int) : Prop := x ≠ 0 ∧ v.getD x.natAbs 0 = foS x
def un (v : List Int) (x : Int) : Prop := v.getD x.natAbs 0 = 0
structure Vec (n : Nat) (v : List Int) : Prop where
  len : v.length = n + 1
  at0 : v.getD 0 0 = 0
  sgn : ∀ i, v.getD i 0 = 0 ∨ v.getD i 0 = 1 ∨ v.getD i 0 = -1
theorem foS_neg (x : Int) : foS (-x) = - foS x := by unfold foS; split <;> split <;> (try split) <;> (try split) <;> omega
theorem foS_two {x : Int} (h : x ≠ 0) : foS x = 1 ∨ foS x = -1 := by unfold foS; split <;> (try split) <;> omega
theorem tr_neg {v : List Int} {x : Int} (h : tr v x) (h2 : tr v (-x)) : False := by
  have e := h2.2
  rw [Int.natAbs_neg, h.2, foS_neg] at e
  have := foS_two h.1
  omega
theorem tr_un {v : List Int} {x : Int} (h : tr v x) (h2 : un v x) : False := by
  have e := h.2
  unfold un at h2
  have := foS_two h.1
  omega
theorem un_neg {v : List Int} {x : Int} : un v (-x) ↔ un v x := by unfold un; rw [Int.natAbs_neg]
theorem tri {n : Nat} {v : List Int} (h : Vec n v) {x : Int} (hx : x ≠ 0) : tr v x ∨ tr v (-x) ∨ un v x := by
  unfold tr un
  rw [Int.natAbs_neg, foS_neg]
  have := h.sgn x.natAbs
  have := foS_two hx
  have : -x ≠ 0 := by omega
  by_cases h0 : v.getD x.natAbs 0 = 0
  · exact .inr (.inr h0)
  · by_cases h1 : v.getD x.natAbs 0 = foS x
    · exact .inl ⟨hx, h1⟩
    · exact .inr (.inl ⟨this, by omega⟩)
theorem getD_set_ (v : List Int) (i j : Nat) (a : Int) (hi : i < v.length) : (v.set i a).getD j 0 = if i = j then a else v.getD j 0 := by
  rw [List.getD_eq_getElem?_getD, List.getElem?_set, List.getD_eq_getElem?_getD]
  by_cases h : i = j
  · rw [if_pos h, if_pos h, if_pos (by omega)]; rfl
  · rw [if_neg h, if_neg h]
def setL (v : List Int) (x : Int) : List Int := v.set x.natAbs (foS x)
theorem tr_set {n : Nat} {v : List Int} (hv : Vec n v) {x : Int} (hx : x ≠ 0) (hn : x.natAbs ≤ n) (hu : un v x) (y : Int) : tr (setL v x) y ↔ tr v y ∨ y = x := by
  unfold tr setL
  rw [getD_set_ _ _ _ _ (by rw [hv.len]; omega)]
  unfold un at hu
  have h2 := foS_two hx
  constructor
  · rintro ⟨h0, h⟩
    by_cases e : x.natAbs = y.natAbs
    · rw [if_pos e] at h
      rcases Int.natAbs_eq_natAbs_iff.1 e with e | e
      · exact .inr e.symm
      · exfalso
        rw [e, foS_neg] at h
        have := foS_two h0
        omega
    · rw [if_neg e] at h
      exact .inl ⟨h0, h⟩
  · rintro (⟨h0, h⟩ | rfl)
    · refine ⟨h0, ?_⟩
      by_cases e : x.natAbs = y.natAbs
      · exfalso
        rw [← e, hu] at h
        have := foS_two h0
        omega
      · rw [if_neg e]; exact h
    · exact ⟨hx, if_pos rfl⟩
theorem un_set {n : Nat} {v : List Int} (hv : Vec n v) {x : Int} (hn : x.natAbs ≤ n) {y : Int} (h : un v y) (hy : y.natAbs ≠ x.natAbs) : un (setL v x) y := by
  unfold un setL
  rw [getD_set_ _ _ _ _ (by rw [hv.len]; omega), if_neg (Ne.symm hy)]
  exact h
theorem vec_set {n : Nat} {v : List Int} (hv : Vec n v) {x : Int} (hx : x ≠ 0) (hn : x.natAbs ≤ n) : Vec n (setL v x) := by
  refine ⟨by unfold setL; rw [List.length_set, hv.len], ?_, fun i => ?_⟩
  · unfold setL
    rw [getD_set_ _ _ _ _ (by rw [hv.len]; omega), if_neg (by omega)]
    exact hv.at0
  · unfold setL
    rw [getD_set_ _ _ _ _ (by rw [hv.len]; omega)]
    split
    · have := foS_two hx; omega
    · exact hv.sgn i
theorem cz_setL {n : Nat} {v : List Int} (hv : Vec n v) {x : Int} (hx : x ≠ 0) (hn : x.natAbs ≤ n) (hu : un v x) : cz (setL v x) + 1 = cz v := by
  have hl : x.natAbs < v.length := by rw [hv.len]; omega
  refine cz_set v x.natAbs (foS x) hl ?_ (foS_ne hx)
  unfold un at hu
  rw [List.getD_eq_getElem?_getD, List.getElem?_eq_getElem hl] at hu
  exact hu
/-- A clause that forces nothing and is not false. -/
def okc (v : List Int) (c : List Int) : Prop := (∃ m ∈ c, tr v m) ∨ ∃ m1 ∈ c, ∃ m2 ∈ c, m1 ≠ m2 ∧ un v m1 ∧ un v m2
def Nam (n : Nat) (C : List (List Int)) : Prop := ∀ c ∈ C, ∀ m ∈ c, m ≠ 0 ∧ m.natAbs ≤ n
structure St (n : Nat) (C : List (List Int)) (G : List Int) (v o : List Int) (R : List Int → Prop) : Prop where
  vec : Vec n v
  snd : ∀ x, tr v x → Der C G x
  giv : ∀ g ∈ G, tr v g
  cls : ∀ c ∈ C, okc v c ∨ (∃ a ∈ o, -a ∈ c) ∨ R c
theorem St.weak {n : Nat} {C : List (List Int)} {G v o : List Int} {R R2 : List Int → Prop} (h : St n C G v o R) (hr : ∀ c ∈ C, R c → okc v c ∨ (∃ a ∈ o, -a ∈ c) ∨ R2 c) : St n C G v o R2 :=
  ⟨h.vec, h.snd, h.giv, fun c hc => by
    rcases h.cls c hc with e | e | e
    · exact .inl e
    · exact .inr (.inl e)
    · exact hr c hc e⟩
theorem St.set {n : Nat} {C : List (List Int)} {G v o c0 : List Int} {R : List Int → Prop} {x : Int} (hC : Nam n C) (h : St n C G v o (fun c => c = c0 ∨ R c)) (hc0 : c0 ∈ C) (hx : x ∈ c0) (hu : un v x)
    (hall : ∀ m ∈ c0, m ≠ x → tr v (-m)) : St n C G (setL v x) (o ++ [x]) R := by
  obtain ⟨hx0, hxn⟩ := hC c0 hc0 x hx
  have ht := tr_set h.vec hx0 hxn hu
  refine ⟨vec_set h.vec hx0 hxn, fun y hy => ?_, fun g hg => (ht g).2 (.inl (h.giv g hg)), fun c hc => ?_⟩
  · rcases (ht y).1 hy with e | e
    · exact h.snd y e
    · rw [e]; exact Der.unit hc0 hx fun m hm hne => h.snd _ (hall m hm hne)
  · rcases h.cls c hc with e | ⟨a, ha, e⟩ | e | e
    · rcases e with ⟨m, hm, e⟩ | ⟨m1, h1, m2, h2, hne, u1, u2⟩
      · exact .inl (.inl ⟨m, hm, (ht m).2 (.inl e)⟩)
      · by_cases e1 : m1.natAbs = x.natAbs
        · rcases Int.natAbs_eq_natAbs_iff.1 e1 with e1 | e1
          · exact .inl (.inl ⟨m1, h1, (ht m1).2 (.inr e1)⟩)
          · exact .inr (.inl ⟨x, by simp, by rw [← e1]; exact h1⟩)
        · by_cases e2 : m2.natAbs = x.natAbs
          · rcases Int.natAbs_eq_natAbs_iff.1 e2 with e2 | e2
            · exact .inl (.inl ⟨m2, h2, (ht m2).2 (.inr e2)⟩)
            · exact .inr (.inl ⟨x, by simp, by rw [← e2]; exact h2⟩)
          · exact .inl (.inr ⟨m1, h1, m2, h2, hne, un_set h.vec hxn u1 e1, un_set h.vec hxn u2 e2⟩)
    · exact .inr (.inl ⟨a, List.mem_append_left _ ha, e⟩)
    · subst e; exact .inl (.inl ⟨x, hx, (ht x).2 (.inr rfl)⟩)
    · exact .inr (.inr e)
theorem St.conf {n : Nat} {C : List (List Int)} {G v o c0 : List Int} {R : List Int → Prop} (h : St n C G v o R) (hc0 : c0 ∈ C) (hall : ∀ m ∈ c0, tr v (-m)) : Conf C G :=
  ⟨c0, hc0, fun m hm => h.snd _ (hall m hm)⟩
/-- What a run comes to: a conflict, or a vector under which no clause forces anything. -/
def Res (n : Nat) (C : List (List Int)) (G : List Int) : Option (List Int) → Prop
  | none => Conf C G
  | some v => St n C G v [] (fun _ => False)
theorem St.ok {n : Nat} {C : List (List Int)} {G v : List Int} (h : St n C G v [] (fun _ => False)) {c : List Int} (hc : c ∈ C) : okc v c := by
  rcases h.cls c hc with e | ⟨a, ha, _⟩ | e
  · exact e
  · cases ha
  · exact e.elim
theorem okc_unit {v c : List Int} (h : okc v c) {x : Int} (h2 : ∀ m ∈ c, m ≠ x → tr v (-m)) : tr v x := by
  rcases h with ⟨m, hm, e⟩ | ⟨m1, h1, m2, h3, hne, u1, u2⟩
  · by_cases ex : m = x
    · rw [← ex]; exact e
    · exact (tr_neg e (h2 m hm ex)).elim
  · by_cases ex : m1 = x
    · exact (tr_un (h2 m2 h3 (fun e => hne (by rw [ex, e]))) (un_neg.2 u2)).elim
    · exact (tr_un (h2 m1 h1 ex) (un_neg.2 u1)).elim
theorem St.der {n : Nat} {C : List (List Int)} {G v : List Int} (h : St n C G v [] (fun _ => False)) (x : Int) : tr v x ↔ Der C G x :=
  ⟨h.snd x, fun hd => hd (tr v) h.giv fun _ hc _ _ hs => okc_unit (h.ok hc) hs⟩
theorem St.noconf {n : Nat} {C : List (List Int)} {G v : List Int} (h : St n C G v [] (fun _ => False)) : ¬ Conf C G := by
  rintro ⟨c, hc, hall⟩
  have h2 : ∀ m ∈ c, tr v (-m) := fun m hm => (h.der _).2 (hall m hm)
  rcases h.ok hc with ⟨m, hm, e⟩ | ⟨m1, h1, m2, h3, hne, u1, u2⟩
  · exact tr_neg e (h2 m hm)
  · exact tr_un (h2 m1 h1) (un_neg.2 u1)
theorem Res.same {n : Nat} {C : List (List Int)} {G : List Int} : ∀ {r s : Option (List Int)}, Res n C G r → Res n C G s → r = s
  | none, none, _, _ => rfl
  | none, some v, h, h2 => absurd h (St.noconf h2)
  | some v, none, h, h2 => absurd h2 (St.noconf h)
  | some v, some u, h, h2 => by
    have h : St n C G v [] (fun _ => False) := h
    have h2 : St n C G u [] (fun _ => False) := h2
    congr 1
    have hg : ∀ i, v.getD i 0 = u.getD i 0 := fun i => by
      cases i with
      | zero => rw [h.vec.at0, h2.vec.at0]
      | succ i =>
        have a1 := h.vec.sgn (i + 1)
        have a2 := h2.vec.sgn (i + 1)
        have key : ∀ x : Int, x.natAbs = i + 1 → (v.getD (i + 1) 0 = foS x ↔ u.getD (i + 1) 0 = foS x) := fun x hx => by
          have := (h.der x).trans (h2.der x).symm
          unfold tr at this
          rw [hx] at this
          have h0 : x ≠ 0 := by omega
          exact ⟨fun e => (this.1 ⟨h0, e⟩).2, fun e => (this.2 ⟨h0, e⟩).2⟩
        have k1 := key ((i + 1 : Nat) : Int) (by omega)
        have k2 := key (-((i + 1 : Nat) : Int)) (by omega)
        have f1 : foS ((i + 1 : Nat) : Int) = 1 := by unfold foS; rw [if_neg (by omega), if_pos (by omega)]
        rw [foS_neg, f1] at k2
        rw [f1] at k1
        omega
    apply List.ext_getElem (by rw [h.vec.len, h2.vec.len])
    intro i h3 h4
    have := hg i
    rwa [List.getD_eq_getElem?_getD, List.getD_eq_getElem?_getD, List.getElem?_eq_getElem h3, List.getElem?_eq_getElem h4] at this
end Go.Proofs.Ytdmngodinbelfaa.Pure

namespace Go.Proofs.Ytdmngodinbelfaa.Pure
open Go.RowKit Go.Proofs.Ytdmngodinbelfaa.X Go.Proofs.YtdmngodinbelfaaW.PrintWords Go.Proofs.YtdmngodinbelfaaW.PrintLast Go.Proofs.YtdmngodinbelfaaW.PrintMore Go.Proofs.Ytdmngodinbelfaa.Bits
theorem foN_abs {n : Nat} (hn : n ≤ 400) {x : Int} (hx : x.natAbs ≤ n) : foN x = (x.natAbs : Int) := by
  unfold foN mx
  rw [wrap64_id _ (by omega) (by omega)]
  split <;> omega
theorem rd_abs (v : List Int) (x : Int) : rd v (x.natAbs : Int) = v.getD x.natAbs 0 := by unfold rd; rw [Int.toNat_natCast]
theorem foT_is {n : Nat} (hn : n ≤ 400) {v : List Int} (hv : Vec n v) {x : Int} (hx : x ≠ 0 ∧ x.natAbs ≤ n) : (foT v x = true ↔ tr v x) ∧ (foF v x = true ↔ tr v (-x)) := by
  unfold foT foF tr
  rw [foN_abs hn hx.2, rd_abs, Int.natAbs_neg, foS_neg]
  have h3 := hv.sgn x.natAbs
  have hx1 : -x ≠ 0 := by omega
  have key : ∀ s : Int, s = 0 ∨ s = 1 ∨ s = -1 → ((decide (0 < wrap64 (s * x)) = true ↔ x ≠ 0 ∧ s = foS x) ∧ (decide (wrap64 (s * x) < 0) = true ↔ -x ≠ 0 ∧ s = -foS x)) := fun s hs => by
    rw [decide_eq_true_iff, decide_eq_true_iff]
    have h0 := hx.1
    have h2 := hx.2
    have hf : foS x = if x < 0 then -1 else if x > 0 then 1 else 0 := rfl
    rcases hs with rfl | rfl | rfl
    · rw [Int.zero_mul, wrap64_id _ (by omega) (by omega)]; rw [hf]; split <;> omega
    · rw [Int.one_mul, wrap64_id _ (by omega) (by omega)]; rw [hf]; split <;> omega
    · rw [show (-1 : Int) * x = -x by omega, wrap64_id _ (by omega) (by omega)]; rw [hf]; split <;> omega
  exact key _ h3
theorem look_is {n : Nat} (hn : n ≤ 400) {v : List Int} (hv : Vec n v) : ∀ (c : List Int) (left : Int), (∀ m ∈ c, m ≠ 0 ∧ m.natAbs ≤ n) → (left = 0 ∨ left ≠ 0 ∧ un v left) →
    ((foLook v c left).2 = true ∧ left = 0 ∧ ∀ m ∈ c, tr v (-m)) ∨
    ((foLook v c left).2 = false ∧ (foLook v c left).1 ≠ 0 ∧ un v (foLook v c left).1 ∧ (left ≠ 0 ∧ (foLook v c left).1 = left ∨ left = 0 ∧ (foLook v c left).1 ∈ c) ∧ ∀ m ∈ c, m ≠ (foLook v c left).1 → tr v (-m)) ∨
    ((foLook v c left).2 = false ∧ (foLook v c left).1 = 0 ∧ ((∃ m ∈ c, tr v m) ∨ (∃ m1, (left ≠ 0 ∧ m1 = left ∨ m1 ∈ c) ∧ ∃ m2 ∈ c, m1 ≠ m2 ∧ un v m1 ∧ un v m2)))
  | [], left, _, hl => by
    rw [foLook]
    rcases hl with rfl | ⟨h0, hu⟩
    · exact .inl ⟨show decide ((0 : Int) = 0) = true by decide, rfl, fun m hm => by cases hm⟩
    · exact .inr (.inl ⟨decide_eq_false h0, h0, hu, .inl ⟨h0, rfl⟩, fun m hm => by cases hm⟩)
  | x :: c, left, hc, hl => by
    have hx := hc x List.mem_cons_self
    have hc2 : ∀ m ∈ c, m ≠ 0 ∧ m.natAbs ≤ n := fun m hm => hc m (List.mem_cons_of_mem _ hm)
    obtain ⟨hT, hF⟩ := foT_is hn hv hx
    rw [foLook]
    by_cases h1 : foT v x = true
    · rw [if_pos h1]
      exact .inr (.inr ⟨rfl, rfl, .inl ⟨x, List.mem_cons_self, hT.1 h1⟩⟩)
    · rw [if_neg h1]
      by_cases h2 : foF v x = true ∨ x = left
      · rw [if_pos h2]
        rcases look_is hn hv c left hc2 hl with ⟨a1, a2, a3⟩ | ⟨a1, a2, a3, a4, a5⟩ | ⟨a1, a2, a3⟩
        · refine .inl ⟨a1, a2, fun m hm => ?_⟩
          rcases List.mem_cons.1 hm with rfl | hm
          · rcases h2 with h2 | h2
            · exact hF.1 h2
            · exact absurd (h2.trans a2) hx.1
          · exact a3 m hm
        · refine .inr (.inl ⟨a1, a2, a3, ?_, fun m hm hne => ?_⟩)
          · rcases a4 with a4 | a4
            · exact .inl a4
            · exact .inr ⟨a4.1, List.mem_cons_of_mem _ a4.2⟩
          · rcases List.mem_cons.1 hm with rfl | hm
            · rcases h2 with h2 | h2
              · exact hF.1 h2
              · rcases a4 with a4 | a4
                · exact absurd (h2.trans a4.2.symm) hne
                · exact absurd (h2.trans a4.1) hx.1
            · exact a5 m hm hne
        · refine .inr (.inr ⟨a1, a2, ?_⟩)
          rcases a3 with ⟨m, hm, e⟩ | ⟨m1, h1, m2, hm2, e⟩
          · exact .inl ⟨m, List.mem_cons_of_mem _ hm, e⟩
          · exact .inr ⟨m1, h1.imp id (List.mem_cons_of_mem _), m2, List.mem_cons_of_mem _ hm2, e⟩
      · rw [if_neg h2]
        have hu : un v x := by
          rcases tri hv hx.1 with e | e | e
          · exact absurd (hT.2 e) h1
          · exact absurd (.inl (hF.2 e)) h2
          · exact e
        by_cases h3 : left ≠ 0
        · rw [if_pos h3]
          refine .inr (.inr ⟨rfl, rfl, .inr ⟨left, .inl ⟨h3, rfl⟩, x, List.mem_cons_self, fun e => h2 (.inr e.symm), ?_, hu⟩⟩)
          rcases hl with e | e
          · exact absurd e h3
          · exact e.2
        · rw [if_neg h3]
          have h3 : left = 0 := Classical.not_not.1 h3
          rcases look_is hn hv c x hc2 (.inr ⟨hx.1, hu⟩) with ⟨a1, a2, a3⟩ | ⟨a1, a2, a3, a4, a5⟩ | ⟨a1, a2, a3⟩
          · exact absurd a2 hx.1
          · have a4 : (foLook v c x).1 = x := by
              rcases a4 with a4 | a4
              · exact a4.2
              · exact absurd a4.1 hx.1
            refine .inr (.inl ⟨a1, a2, a3, .inr ⟨h3, by rw [a4]; exact List.mem_cons_self⟩, fun m hm hne => ?_⟩)
            rcases List.mem_cons.1 hm with rfl | hm
            · exact absurd a4.symm hne
            · exact a5 m hm hne
          · refine .inr (.inr ⟨a1, a2, ?_⟩)
            rcases a3 with ⟨m, hm, e⟩ | ⟨m1, h1, m2, hm2, e⟩
            · exact .inl ⟨m, List.mem_cons_of_mem _ hm, e⟩
            · refine .inr ⟨m1, .inr ?_, m2, List.mem_cons_of_mem _ hm2, e⟩
              rcases h1 with h1 | h1
              · rw [h1.2]; exact List.mem_cons_self
              · exact List.mem_cons_of_mem _ h1
theorem setV_is {n : Nat} (hn : n ≤ 400) {v : List Int} {x : Int} (hx : x.natAbs ≤ n) (hu : un v x) (q : List Int) : setV v x = setL v x ∧ setO v q x = q ++ [x] := by
  have e : rd v (foN x) = 0 := by rw [foN_abs hn hx, rd_abs]; exact hu
  unfold setV setO setL
  rw [if_pos e, if_pos e, foN_abs hn hx, Int.toNat_natCast]
  exact ⟨rfl, rfl⟩
theorem step_look {n : Nat} (hn : n ≤ 400) {C : List (List Int)} {G v o c0 : List Int} {R : List Int → Prop} (hC : Nam n C) (h : St n C G v o (fun c => c = c0 ∨ R c)) (hc0 : c0 ∈ C) :
    ((foLook v c0 0).2 = true ∧ Conf C G) ∨ ((foLook v c0 0).2 = false ∧ ∃ o', (∀ q, lookO v (q ++ o) c0 = q ++ o') ∧ St n C G (lookV v c0) o' R ∧ cz (lookV v c0) + o'.length = cz v + o.length) := by
  rcases look_is hn h.vec c0 0 (hC c0 hc0) (.inl rfl) with ⟨a1, _, a3⟩ | ⟨a1, a2, a3, a4, a5⟩ | ⟨a1, a2, a3⟩
  · exact .inl ⟨a1, h.conf hc0 a3⟩
  · obtain ⟨x, hx⟩ : ∃ x, (foLook v c0 0).1 = x := ⟨_, rfl⟩
    have hm : x ∈ c0 := by
      rcases a4 with a4 | a4
      · exact absurd rfl a4.1
      · rw [← hx]; exact a4.2
    rw [hx] at a2 a3 a5
    have hl := hC c0 hc0 x hm
    refine .inr ⟨a1, o ++ [x], fun q => ?_, ?_, ?_⟩
    · unfold lookO
      rw [hx, if_neg a2, (setV_is hn hl.2 a3 _).2, List.append_assoc]
    · unfold lookV
      rw [hx, if_neg a2, (setV_is hn hl.2 a3 []).1]
      exact h.set hC hc0 hm a3 a5
    · unfold lookV
      rw [hx, if_neg a2, (setV_is hn hl.2 a3 []).1]
      have := cz_setL h.vec hl.1 hl.2 a3
      rw [List.length_append, List.length_singleton]
      omega
  · refine .inr ⟨a1, o, fun q => ?_, ?_, ?_⟩
    · unfold lookO; rw [if_pos a2]
    · unfold lookV; rw [if_pos a2]
      refine h.weak fun c _ hr => ?_
      rcases hr with rfl | hr
      · rcases a3 with a3 | ⟨m1, h1, e⟩
        · exact .inl (.inl a3)
        · rcases h1 with h1 | h1
          · exact absurd rfl h1.1
          · exact .inl (.inr ⟨m1, h1, e⟩)
      · exact .inr (.inr hr)
    · unfold lookV; rw [if_pos a2]
theorem ph1_is {n : Nat} (hn : n ≤ 400) {C : List (List Int)} {G : List Int} (hC : Nam n C) : ∀ (rest : List (List Int)) (v o : List Int), St n C G v o (fun c => c ∈ rest) → (∀ c ∈ rest, c ∈ C) →
    (ph1 rest (v, o) = none ∧ Conf C G) ∨ ∃ v' o', ph1 rest (v, o) = some (v', o') ∧ St n C G v' o' (fun _ => False) ∧ cz v' + o'.length = cz v + o.length
  | [], v, o, h, _ => .inr ⟨v, o, rfl, h.weak (fun c _ hr => by cases hr), rfl⟩
  | c :: rest, v, o, h, hr => by
    have h1 : St n C G v o (fun d => d = c ∨ d ∈ rest) := h.weak fun d _ hd => .inr (.inr (List.mem_cons.1 hd))
    rw [ph1]
    rcases step_look hn hC h1 (hr c List.mem_cons_self) with ⟨a1, a2⟩ | ⟨a1, o', a2, a3, a4⟩
    · exact .inl ⟨if_pos a1, a2⟩
    · have e : stL (v, o) c = (lookV v c, o') := by
        have := a2 []
        unfold stL
        rw [List.nil_append, List.nil_append] at this
        exact congrArg _ this
      rw [if_neg (by rw [show (v, o).1 = v from rfl, a1]; decide), e]
      rcases ph1_is hn hC rest _ _ a3 (fun d hd => hr d (List.mem_cons_of_mem _ hd)) with b | ⟨v', o2, b1, b2, b3⟩
      · exact .inl b
      · exact .inr ⟨v', o2, b1, b2, by omega⟩
theorem inn_is {n : Nat} (hn : n ≤ 400) {C : List (List Int)} {G : List Int} (hC : Nam n C) (a : Int) : ∀ (r : List Int) (v o : List Int), St n C G v o (fun c => ∃ k ∈ r, c = C.getD k.toNat []) → (∀ k ∈ r, C.getD k.toNat [] ∈ C) →
    (inn C r (v, a :: o) = none ∧ Conf C G) ∨ ∃ v' o', inn C r (v, a :: o) = some (v', a :: o') ∧ St n C G v' o' (fun _ => False) ∧ cz v' + o'.length = cz v + o.length
  | [], v, o, h, _ => .inr ⟨v, o, rfl, h.weak (fun c _ hr => by obtain ⟨k, hk, _⟩ := hr; cases hk), rfl⟩
  | j :: r, v, o, h, hr => by
    have h1 : St n C G v o (fun d => d = C.getD j.toNat [] ∨ ∃ k ∈ r, d = C.getD k.toNat []) := h.weak fun d _ hd => by
      obtain ⟨k, hk, e⟩ := hd
      rcases List.mem_cons.1 hk with rfl | hk
      · exact .inr (.inr (.inl e))
      · exact .inr (.inr (.inr ⟨k, hk, e⟩))
    rw [inn]
    rcases step_look hn hC h1 (hr j List.mem_cons_self) with ⟨a1, a2⟩ | ⟨a1, o', a2, a3, a4⟩
    · exact .inl ⟨if_pos a1, a2⟩
    · have e : stL (v, a :: o) (C.getD j.toNat []) = (lookV v (C.getD j.toNat []), a :: o') := by
        have := a2 [a]
        unfold stL
        exact congrArg _ this
      rw [if_neg (by rw [show (v, a :: o).1 = v from rfl, a1]; decide), e]
      rcases inn_is hn hC a r _ _ a3 (fun d hd => hr d (List.mem_cons_of_mem _ hd)) with b | ⟨v', o2, b1, b2, b3⟩
      · exact .inl b
      · exact .inr ⟨v', o2, b1, b2, by omega⟩
theorem prs_has (L : List (List Int)) (x : Int) (i : Nat) (hi : i < L.length) (hx : x ∈ L.getD i []) : ∀ n, i < n → (wrap64 (-x), (i : Int)) ∈ prs L n
  | 0, h => absurd h (by omega)
  | n + 1, h => by
    rw [prs]
    by_cases e : i = n
    · subst e
      exact List.mem_append_right _ (List.mem_map.2 ⟨x, hx, rfl⟩)
    · exact List.mem_append_left _ (prs_has L x i hi hx n (by omega))
theorem grp_in {C : List (List Int)} (a k : Int) (h : k ∈ grp (prs C C.length) a) : C.getD k.toNat [] ∈ C := by
  unfold grp at h
  obtain ⟨p, hp, rfl⟩ := List.mem_map.1 h
  obtain ⟨i, hi, e⟩ := prs_mem C C.length p (List.mem_filter.1 hp).1
  rw [e, Int.toNat_natCast, List.getD_eq_getElem?_getD, List.getElem?_eq_getElem hi]
  exact List.getElem_mem hi
theorem grp_all {n : Nat} (hn : n ≤ 400) {C : List (List Int)} (hC : Nam n C) {a : Int} {c : List Int} (hc : c ∈ C) (ha : -a ∈ c) : ∃ k ∈ grp (prs C C.length) a, c = C.getD k.toNat [] := by
  obtain ⟨i, hi, e⟩ := List.getElem_of_mem hc
  have e2 : C.getD i [] = c := by rw [List.getD_eq_getElem?_getD, List.getElem?_eq_getElem hi]; exact e
  have hl := hC c hc _ ha
  have hw : wrap64 (-(-a)) = a := by rw [wrap64_id _ (by omega) (by omega)]; omega
  have := prs_has C (-a) i hi (by rw [e2]; exact ha) C.length hi
  refine ⟨(i : Int), ?_, by rw [Int.toNat_natCast]; exact e2.symm⟩
  unfold grp
  exact List.mem_map.2 ⟨_, List.mem_filter.2 ⟨this, by rw [hw]; exact beq_self_eq_true a⟩, rfl⟩
def outI : Option (List Int) → List Int × Bool
  | none => ([], true)
  | some v => (v, false)
theorem ph3_is {n : Nat} (hn : n ≤ 400) {C : List (List Int)} {G : List Int} (hC : Nam n C) : ∀ (k : Nat) (v o : List Int), St n C G v o (fun _ => False) → cz v + o.length < k → ∃ r, Res n C G r ∧ ph3 C (prs C C.length) k (v, o) = some (outI r)
  | 0, _, _, _, h => absurd h (by omega)
  | k + 1, v, [], h, _ => ⟨some v, h, rfl⟩
  | k + 1, v, a :: o, h, hk => by
    have h1 : St n C G v o (fun c => ∃ j ∈ grp (prs C C.length) a, c = C.getD j.toNat []) := ⟨h.vec, h.snd, h.giv, fun c hc => by
      rcases h.cls c hc with e | ⟨b, hb, e⟩ | e
      · exact .inl e
      · rcases List.mem_cons.1 hb with rfl | hb
        · exact .inr (.inr (grp_all hn hC hc e))
        · exact .inr (.inl ⟨b, hb, e⟩)
      · exact e.elim⟩
    rw [ph3]
    rcases inn_is hn hC a _ v o h1 (fun k hk => grp_in a k hk) with ⟨e, e2⟩ | ⟨v', o', e, e2, e3⟩
    · refine ⟨none, e2, ?_⟩
      simp only [e]
      rfl
    · rw [List.length_cons] at hk
      obtain ⟨r, hr, e4⟩ := ph3_is hn hC k v' o' e2 (by omega)
      refine ⟨r, hr, ?_⟩
      simp only [e, List.drop_one, List.tail_cons]
      exact e4
/-- The given literals: names from 1 to n, each once. -/
def gB (n : Int) : List Int → List Int → Bool
  | _, [] => true
  | q, x :: t => litB n x && (!decide (x ∈ q) && (!decide (-x ∈ q) && gB n (q ++ [x]) t))
theorem lit_abs {n : Nat} {x : Int} (h : litB (n : Int) x = true) : x ≠ 0 ∧ x.natAbs ≤ n := by
  have := of_decide_eq_true h
  omega
theorem fold_is {n : Nat} (hn : n ≤ 400) : ∀ (t q v : List Int), Vec n v → (∀ y, tr v y ↔ y ∈ q) → gB (n : Int) q t = true →
    ∃ v', t.foldl stG (v, q) = (v', q ++ t) ∧ Vec n v' ∧ (∀ y, tr v' y ↔ y ∈ q ++ t) ∧ cz v' + t.length = cz v
  | [], q, v, hv, ht, _ => ⟨v, by rw [List.append_nil]; rfl, hv, by rw [List.append_nil]; exact ht, rfl⟩
  | x :: t, q, v, hv, ht, hg => by
    rw [gB, Bool.and_eq_true, Bool.and_eq_true, Bool.and_eq_true, Bool.not_eq_true', Bool.not_eq_true', decide_eq_false_iff_not, decide_eq_false_iff_not] at hg
    obtain ⟨h1, h2, h3, h4⟩ := hg
    have hl := lit_abs h1
    have hu : un v x := by
      rcases tri hv hl.1 with e | e | e
      · exact absurd ((ht x).1 e) h2
      · exact absurd ((ht (-x)).1 e) h3
      · exact e
    have hs := tr_set hv hl.1 hl.2 hu
    obtain ⟨v', e1, e2, e3, e4⟩ := fold_is hn t (q ++ [x]) (setL v x) (vec_set hv hl.1 hl.2) (fun y => by rw [hs, ht, List.mem_append, List.mem_singleton]) h4
    refine ⟨v', ?_, e2, fun y => ?_, ?_⟩
    · rw [List.foldl_cons, show stG (v, q) x = (setL v x, q ++ [x]) by unfold stG; rw [(setV_is hn hl.2 hu q).1, (setV_is hn hl.2 hu q).2], e1, List.append_assoc]; rfl
    · rw [e3, List.append_assoc]; rfl
    · have := cz_setL hv hl.1 hl.2 hu
      rw [List.length_cons]
      omega
theorem vec0 (n : Nat) : Vec n (List.replicate (n + 1) 0) ∧ (∀ y, tr (List.replicate (n + 1) 0) y ↔ y ∈ ([] : List Int)) ∧ cz (List.replicate (n + 1) 0) = n + 1 := by
  have hg : ∀ i, (List.replicate (n + 1) (0 : Int)).getD i 0 = 0 := fun i => by
    rw [List.getD_eq_getElem?_getD, List.getElem?_replicate]
    split <;> rfl
  refine ⟨⟨List.length_replicate, hg 0, fun i => .inl (hg i)⟩, fun y => ⟨fun h => ?_, fun h => by cases h⟩, ?_⟩
  · have := h.2
    rw [hg] at this
    have := foS_two h.1
    omega
  · unfold cz; rw [List.count_replicate_self]
/-- Where both sides begin. -/
theorem start_is {n : Nat} (hn : n ≤ 400) {C : List (List Int)} {G : List Int} (hg : gB (n : Int) [] G = true) : ∃ v0, G.foldl stG (List.replicate (n + 1) 0, []) = (v0, G) ∧ (∀ o R, (∀ c ∈ C, R c) → St n C G v0 o R) ∧ cz v0 + G.length = n + 1 ∧ Vec n v0 := by
  obtain ⟨a1, a2, a3⟩ := vec0 n
  obtain ⟨v0, e1, e2, e3, e4⟩ := fold_is hn G [] _ a1 a2 hg
  rw [List.nil_append] at e1 e3
  exact ⟨v0, e1, fun o R hr => ⟨e2, fun x hx => Der.giv ((e3 x).1 hx), fun g h => (e3 g).2 h, fun c hc => .inr (.inr (hr c hc))⟩, by omega, e2⟩
theorem gB_lit (n : Int) : ∀ (t q : List Int), gB n q t = true → ∀ x ∈ t, litB n x = true
  | [], _, _, x, hx => by cases hx
  | y :: t, q, h, x, hx => by
    rw [gB, Bool.and_eq_true, Bool.and_eq_true, Bool.and_eq_true] at h
    rcases List.mem_cons.1 hx with rfl | hx
    · exact h.1
    · exact gB_lit n t _ h.2.2.2 x hx
theorem clB_is {n : Int} {c : List Int} (h : clauseB n c = true) : c.length ≤ 8 ∧ ∀ x ∈ c, litB n x = true := by
  unfold clauseB at h
  rw [Bool.and_eq_true, decide_eq_true_iff, List.all_eq_true] at h
  exact h
theorem cnB_is {n : Int} {l : List (List Int)} (h : cnfB n l = true) : 0 ≤ n ∧ n ≤ 400 ∧ l.length ≤ 1400 ∧ ∀ c ∈ l, clauseB n c = true := by
  unfold cnfB at h
  rw [Bool.and_eq_true, decide_eq_true_iff, List.all_eq_true] at h
  exact ⟨h.1.1, h.1.2.1, h.1.2.2, h.2⟩
theorem nam_of {n : Nat} {C : List (List Int)} (h : cnfB (n : Int) C = true) : Nam n C := fun c hc m hm => lit_abs ((clB_is ((cnB_is h).2.2.2 c hc)).2 m hm)
/-- The program's propagation. -/
theorem cnfForced_is {n : Nat} {C : List (List Int)} {G : List Int} (h : cnfB (n : Int) C = true) (hg : gB (n : Int) [] G = true) : ∃ r, Res n C G r ∧ ∀ k, n + 1 < k → impl_Cnf_forced.f k (n : Int) C G = some (outI r) := by
  obtain ⟨b1, b2, b3, b4⟩ := cnB_is h
  have hn : n ≤ 400 := by omega
  have hC := nam_of h
  obtain ⟨v0, e1, e2, e3, e4⟩ := start_is (C := C) hn hg
  have hgood : foGood (n : Int) C G = true := by
    unfold foGood
    rw [Bool.and_eq_true, Bool.and_eq_true, decide_eq_true_iff, List.all_eq_true, List.all_eq_true]
    refine ⟨⟨b1, by omega, by omega, by omega⟩, fun x hx => gB_lit _ _ _ hg x hx, fun c hc => ?_⟩
    obtain ⟨d1, d2⟩ := clB_is (b4 c hc)
    rw [Bool.and_eq_true, decide_eq_true_iff, List.all_eq_true]
    exact ⟨by omega, fun x hx => d2 x hx⟩
  have hf : ∀ k, impl_Cnf_forced.f k (n : Int) C G = foK C k (ph1 C (v0, G)) := fun k => by
    unfold impl_Cnf_forced.f
    rw [if_pos hgood]
    unfold fo0
    rw [show ((n : Int) + 1).toNat = n + 1 by omega, e1]
  rcases ph1_is hn hC C v0 G (e2 G _ fun c hc => hc) (fun c hc => hc) with ⟨c1, c2⟩ | ⟨v', o', c1, c2, c3⟩
  · exact ⟨none, c2, fun k _ => by rw [hf, c1]; rfl⟩
  · obtain ⟨r, hr, e5⟩ := ph3_is hn hC (n + 2) v' o' c2 (by omega)
    refine ⟨r, hr, fun k hk => ?_⟩
    rw [hf, c1]
    obtain ⟨r2, hr2, e6⟩ := ph3_is hn hC k v' o' c2 (by omega)
    rw [Res.same hr hr2]
    exact e6
end Go.Proofs.Ytdmngodinbelfaa.Pure

namespace Go.Proofs.Ytdmngodinbelfaa.Pure
open Go.RowKit Go.Proofs.Ytdmngodinbelfaa.X Go.Proofs.YtdmngodinbelfaaW.PrintWords Go.Proofs.YtdmngodinbelfaaW.PrintLast Go.Proofs.YtdmngodinbelfaaW.PrintMore Go.Proofs.Ytdmngodinbelfaa.Bits
theorem sign_is {n : Nat} (hn : n ≤ 400) {v : List Int} (hv : Vec n v) {x : Int} (hx : x ≠ 0 ∧ x.natAbs ≤ n) : ∃ s, spec_l6Sign.f v x = some s ∧ ((s == 1) = true ↔ tr v x) ∧ (s = 0 ↔ un v x) := by
  have h3 := hv.sgn x.natAbs
  have hl := hv.len
  unfold spec_l6Sign.f tr un
  rw [wrap64_id _ (by omega) (by omega)]
  have hr : ∀ y : Int, y = x.natAbs → rd v y = v.getD x.natAbs 0 := fun y hy => by rw [hy, rd_abs]
  by_cases h : x < 0
  · rw [if_pos h, if_pos (by omega), if_pos (by omega), hr _ (by omega)]
    refine ⟨_, rfl, ?_⟩
    have hf : foS x = -1 := by unfold foS; rw [if_pos h]
    rw [wrap64_id _ (by omega) (by omega), hf, beq_iff_eq]
    omega
  · rw [if_neg h, if_pos (by omega), if_pos (by omega), hr _ (by omega)]
    refine ⟨_, rfl, ?_⟩
    have hf : foS x = 1 := by unfold foS; rw [if_neg h, if_pos (by omega)]
    rw [hf, beq_iff_eq]
    omega
/-- What the pass over a clause has counted. -/
def ScP (v p : List Int) (m : Bool) (l f : Int) : Prop :=
  (m = true ↔ ∃ x ∈ p, tr v x) ∧ 0 ≤ f ∧ f ≤ (p.length : Int) ∧
  ((f = 0 ∧ l = 0 ∧ ∀ x ∈ p, ¬ un v x) ∨ (f = 1 ∧ l ∈ p ∧ un v l ∧ ∀ x ∈ p, un v x → x = l) ∨ (2 ≤ f ∧ l ∈ p ∧ un v l ∧ ∃ m1 ∈ p, ∃ m2 ∈ p, m1 ≠ m2 ∧ un v m1 ∧ un v m2))
theorem ScP.step {v p : List Int} {m : Bool} {l f x s : Int} (h : ScP v p m l f) (hx : x ≠ 0) (h1 : (s == 1) = true ↔ tr v x) (h0 : s = 0 ↔ un v x) :
    ScP v (p ++ [x]) (if m = true then true else (s == 1)) (if s = 0 then (if x = l then l else x) else l) (if s = 0 then (if x = l then f else f + 1) else f) := by
  obtain ⟨a1, a2, a3, a4⟩ := h
  have hm : ((if m = true then true else (s == 1)) = true ↔ ∃ y ∈ p ++ [x], tr v y) := by
    constructor
    · intro e
      by_cases hm : m = true
      · obtain ⟨y, hy, e2⟩ := a1.1 hm
        exact ⟨y, List.mem_append_left _ hy, e2⟩
      · rw [if_neg hm] at e
        exact ⟨x, by simp, h1.1 e⟩
    · rintro ⟨y, hy, e⟩
      by_cases hm : m = true
      · rw [if_pos hm]
      · rw [if_neg hm]
        rcases List.mem_append.1 hy with hy | hy
        · exact absurd (a1.2 ⟨y, hy, e⟩) hm
        · rw [List.mem_singleton.1 hy] at e
          exact h1.2 e
  have hq : ∀ y, y ∈ p ++ [x] ↔ y ∈ p ∨ y = x := fun y => by simp
  refine ⟨hm, ?_, ?_, ?_⟩
  · split
    · split <;> omega
    · exact a2
  · rw [List.length_append, List.length_singleton]
    split
    · split <;> omega
    · omega
  · by_cases e0 : s = 0
    · have hu := h0.1 e0
      rw [if_pos e0, if_pos e0]
      by_cases el : x = l
      · rw [if_pos el, if_pos el]
        rcases a4 with ⟨b1, b2, b3⟩ | ⟨b1, b2, b3, b4⟩ | ⟨b1, b2, b3, m1, b4, m2, b5, b6⟩
        · exact absurd (el.trans b2) hx
        · refine .inr (.inl ⟨b1, (hq _).2 (.inl b2), b3, fun y hy hy2 => ?_⟩)
          rcases (hq y).1 hy with e | e
          · exact b4 y e hy2
          · exact e.trans el
        · exact .inr (.inr ⟨b1, (hq _).2 (.inl b2), b3, m1, (hq _).2 (.inl b4), m2, (hq _).2 (.inl b5), b6⟩)
      · rw [if_neg el, if_neg el]
        rcases a4 with ⟨b1, b2, b3⟩ | ⟨b1, b2, b3, b4⟩ | ⟨b1, b2, b3, m1, b4, m2, b5, b6⟩
        · refine .inr (.inl ⟨by omega, (hq _).2 (.inr rfl), hu, fun y hy hy2 => ?_⟩)
          rcases (hq y).1 hy with e | e
          · exact absurd hy2 (b3 y e)
          · exact e
        · exact .inr (.inr ⟨by omega, (hq _).2 (.inr rfl), hu, x, (hq _).2 (.inr rfl), l, (hq _).2 (.inl b2), el, hu, b3⟩)
        · exact .inr (.inr ⟨by omega, (hq _).2 (.inr rfl), hu, m1, (hq _).2 (.inl b4), m2, (hq _).2 (.inl b5), b6⟩)
    · have hu : ¬ un v x := fun e => e0 (h0.2 e)
      rw [if_neg e0, if_neg e0]
      rcases a4 with ⟨b1, b2, b3⟩ | ⟨b1, b2, b3, b4⟩ | ⟨b1, b2, b3, m1, b4, m2, b5, b6⟩
      · refine .inl ⟨b1, b2, fun y hy hy2 => ?_⟩
        rcases (hq y).1 hy with e | e
        · exact b3 y e hy2
        · exact hu (e ▸ hy2)
      · refine .inr (.inl ⟨b1, (hq _).2 (.inl b2), b3, fun y hy hy2 => ?_⟩)
        rcases (hq y).1 hy with e | e
        · exact b4 y e hy2
        · exact absurd (e ▸ hy2) hu
      · exact .inr (.inr ⟨b1, (hq _).2 (.inl b2), b3, m1, (hq _).2 (.inl b4), m2, (hq _).2 (.inl b5), b6⟩)
/-- Behind a clause. -/
def aft (n : Int) (C : List (List Int)) (ci : Int) (k : Nat) (v : List Int) (g m : Bool) (l f : Int) : Option (Bool × List Int) :=
  if m = true then spec_l6Force.l1 k v g C (C.length : Int) (wrap64 (ci + 1)) n C else if f = 0 then some (true, v) else if f = 1 then (if l < 0 then (if 0 ≤ wrap64 (-l) then (if wrap64 (-l) < (v.length : Int) then spec_l6Force.l1 k (v.set (wrap64 (-l) : Int).toNat (-1)) true C (C.length : Int) (wrap64 (ci + 1)) n C else none) else none) else (if 0 ≤ l then (if l < (v.length : Int) then spec_l6Force.l1 k (v.set (l : Int).toNat 1) true C (C.length : Int) (wrap64 (ci + 1)) n C else none) else none)) else spec_l6Force.l1 k v g C (C.length : Int) (wrap64 (ci + 1)) n C
theorem l2_is {n : Nat} (hn : n ≤ 400) (C : List (List Int)) (ci : Int) {v c : List Int} (hv : Vec n v) (hc : ∀ m ∈ c, m ≠ 0 ∧ m.natAbs ≤ n) (hcl : c.length ≤ 8) (g : Bool) (d : Nat) : ∀ (i : Nat) (m : Bool) (l f : Int), i + d = c.length → ScP v (c.take i) m l f →
    ∃ m' l' f', ScP v c m' l' f' ∧ ∀ k, spec_l6Force.l2 (k + d + 1) v g m l f C (C.length : Int) ci c (c.length : Int) (i : Int) (n : Int) C = aft (n : Int) C ci k v g m' l' f' := by
  induction d with
  | zero =>
    intro i m l f hi hs
    refine ⟨m, l, f, by rwa [List.take_of_length_le (by omega)] at hs, fun k => ?_⟩
    simp only [spec_l6Force.l2]
    rewrite [if_neg (by omega)]
    rfl
  | succ d ih =>
    intro i m l f hi hs
    have hit : i < c.length := by omega
    have e1 : wrap64 ((i : Int) + 1) = ((i + 1 : Nat) : Int) := by rw [wrap64_id _ (by omega) (by omega)]; omega
    have hx := hc _ (List.getElem_mem hit)
    obtain ⟨s, hs1, hs2, hs3⟩ := sign_is hn hv hx
    have hf : wrap64 (f + 1) = f + 1 := by
      obtain ⟨_, q1, q2, _⟩ := hs
      rw [List.length_take] at q2
      exact wrap64_id _ (by omega) (by omega)
    have hstep := hs.step hx.1 hs2 hs3
    rw [show c.take i ++ [c[i]] = c.take (i + 1) by rw [List.take_add_one, List.getElem?_eq_getElem hit, Option.toList_some]] at hstep
    obtain ⟨m', l', f', h1, h2⟩ := ih (i + 1) _ _ _ (by omega) hstep
    refine ⟨m', l', f', h1, fun k => ?_⟩
    rw [← h2 k]
    rw [show k + (d + 1) + 1 = (k + d + 1) + 1 by omega]
    rw [spec_l6Force.l2]
    rewrite [if_pos (by omega), if_pos (by omega), if_pos (by omega), rdInt_at hit, hs1, Option.bind_some, e1, hf]
    by_cases hm : m = true
    · rw [if_pos hm, if_pos hm]
      by_cases e0 : s = 0
      · rw [if_pos e0, if_pos e0, if_pos e0]
        by_cases el : c[i] = l
        · rw [if_pos el, if_pos el, if_pos el]
        · rw [if_neg el, if_neg el, if_neg el]
      · rw [if_neg e0, if_neg e0, if_neg e0]
    · rw [if_neg hm, if_neg hm]
      by_cases e0 : s = 0
      · rw [if_pos e0, if_pos e0, if_pos e0]
        by_cases el : c[i] = l
        · rw [if_pos el, if_pos el, if_pos el]
        · rw [if_neg el, if_neg el, if_neg el]
      · rw [if_neg e0, if_neg e0, if_neg e0]
theorem l1_is {n : Nat} (hn : n ≤ 400) {C : List (List Int)} {G : List Int} (hC : Nam n C) (hCl : C.length ≤ 1400) (hcl : ∀ c ∈ C, c.length ≤ 8) (d : Nat) : ∀ (i : Nat) (v o : List Int) (g : Bool), i + d = C.length → St n C G v o (fun c => c ∈ C.drop i) → (g = false → o = []) →
    ((Conf C G) ∧ ∃ s v', ∀ k, spec_l6Force.l1 (k + s) v g C (C.length : Int) (i : Int) (n : Int) C = some (true, v')) ∨
    ∃ s v' o' g', (∀ k, spec_l6Force.l1 (k + s) v g C (C.length : Int) (i : Int) (n : Int) C = spec_l6Force.l0 k v' g' (n : Int) C) ∧ St n C G v' o' (fun _ => False) ∧ (g' = false → o' = []) ∧ cz v' ≤ cz v ∧ (g' = true → g = true ∨ cz v' < cz v) := by
  induction d with
  | zero =>
    intro i v o g hi h hg
    refine .inr ⟨1, v, o, g, fun k => ?_, h.weak fun c _ hc => ?_, hg, Nat.le_refl _, fun e => .inl e⟩
    · rw [spec_l6Force.l1, if_neg (by omega)]
    · rw [List.drop_eq_nil_of_le (by omega)] at hc; cases hc
  | succ d ih =>
    intro i v o g hi h hg
    have hit : i < C.length := by omega
    have e1 : wrap64 ((i : Int) + 1) = ((i + 1 : Nat) : Int) := by rw [wrap64_id _ (by omega) (by omega)]; omega
    have hmem := List.getElem_mem hit
    have hd : C.drop i = C[i] :: C.drop (i + 1) := List.drop_eq_getElem_cons hit
    have h1 : St n C G v o (fun c => c = C[i] ∨ c ∈ C.drop (i + 1)) := h.weak fun c _ hc => by
      rw [hd] at hc
      exact .inr (.inr (List.mem_cons.1 hc))
    obtain ⟨m, l, f, ⟨a1, a2, a3, a4⟩, h2⟩ := l2_is hn C (i : Int) h.vec (hC _ hmem) (hcl _ hmem) g C[i].length 0 false 0 0 (by omega)
      ⟨⟨(fun e => by cases e), (fun ⟨x, hx, _⟩ => by cases hx)⟩, by omega, by simp, .inl ⟨rfl, rfl, (fun x hx => by cases hx)⟩⟩
    have e2 : ∀ k, spec_l6Force.l1 (k + (C[i].length + 2)) v g C (C.length : Int) (i : Int) (n : Int) C = aft (n : Int) C (i : Int) k v g m l f := fun k => by
      rw [← h2 k, show k + (C[i].length + 2) = (k + C[i].length + 1) + 1 by omega, spec_l6Force.l1, if_pos (by omega), if_pos (by omega), if_pos (by omega), rdIS_at hit]
      rfl
    have hnext : ∀ {v2 o2 : List Int} {g2 : Bool}, (∀ k, aft (n : Int) C (i : Int) k v g m l f = spec_l6Force.l1 k v2 g2 C (C.length : Int) ((i + 1 : Nat) : Int) (n : Int) C) → St n C G v2 o2 (fun c => c ∈ C.drop (i + 1)) → (g2 = false → o2 = []) → cz v2 ≤ cz v → (g2 = true → g = true ∨ cz v2 < cz v) →
        ((Conf C G) ∧ ∃ s v', ∀ k, spec_l6Force.l1 (k + s) v g C (C.length : Int) (i : Int) (n : Int) C = some (true, v')) ∨
        ∃ s v' o' g', (∀ k, spec_l6Force.l1 (k + s) v g C (C.length : Int) (i : Int) (n : Int) C = spec_l6Force.l0 k v' g' (n : Int) C) ∧ St n C G v' o' (fun _ => False) ∧ (g' = false → o' = []) ∧ cz v' ≤ cz v ∧ (g' = true → g = true ∨ cz v' < cz v) := by
      intro v2 o2 g2 q1 q2 q3 q4 q5
      rcases ih (i + 1) v2 o2 g2 (by omega) q2 q3 with ⟨r1, s, v', r2⟩ | ⟨s, v', o', g', r1, r2, r3, r4, r5⟩
      · refine .inl ⟨r1, s + (C[i].length + 2), v', fun k => ?_⟩
        rw [← Nat.add_assoc, e2, q1, r2]
      · refine .inr ⟨s + (C[i].length + 2), v', o', g', fun k => ?_, r2, r3, by omega, fun e => ?_⟩
        · rw [← Nat.add_assoc, e2, q1, r1]
        · rcases r5 e with e | e
          · rcases q5 e with e | e
            · exact .inl e
            · exact .inr (by omega)
          · exact .inr (by omega)
    by_cases hm : m = true
    · refine hnext (v2 := v) (o2 := o) (g2 := g) (fun k => by unfold aft; rw [if_pos hm, e1]) (h1.weak fun c _ hc => ?_) hg (Nat.le_refl _) (fun e => .inl e)
      rcases hc with rfl | hc
      · exact .inl (.inl (a1.1 hm))
      · exact .inr (.inr hc)
    · have hfa : ∀ x ∈ C[i], ¬ un v x → tr v (-x) := fun x hx hu => by
        rcases tri h.vec (hC _ hmem x hx).1 with e | e | e
        · exact absurd (a1.2 ⟨x, hx, e⟩) hm
        · exact e
        · exact absurd e hu
      rcases a4 with ⟨b1, b2, b3⟩ | ⟨b1, b2, b3, b4⟩ | ⟨b1, b2, b3, m1, b4, m2, b5, b6⟩
      · refine .inl ⟨h.conf hmem fun x hx => hfa x hx (b3 x hx), C[i].length + 2, v, fun k => ?_⟩
        rw [e2]
        unfold aft
        rw [if_neg hm, if_pos b1]
      · have hl := hC _ hmem l b2
        have hset := St.set hC h1 hmem b2 b3 (fun x hx hne => hfa x hx fun hu => hne (b4 x hx hu))
        have hcz := cz_setL h.vec hl.1 hl.2 b3
        have hvl := h.vec.len
        refine hnext (v2 := setL v l) (o2 := o ++ [l]) (g2 := true) (fun k => ?_) hset (fun e => by cases e) (by omega) (fun _ => .inr (by omega))
        unfold aft setL foS
        rw [if_neg hm, if_neg (by omega), if_pos b1, e1, wrap64_id _ (by omega) (by omega)]
        by_cases hl0 : l < 0
        · rw [if_pos hl0, if_pos (by omega), if_pos (by omega), if_pos hl0, show (-l).toNat = l.natAbs by omega]
        · rw [if_neg hl0, if_pos (by omega), if_pos (by omega), if_neg hl0, if_pos (by omega), show l.toNat = l.natAbs by omega]
      · refine hnext (v2 := v) (o2 := o) (g2 := g) (fun k => by unfold aft; rw [if_neg hm, if_neg (by omega), if_neg (by omega), e1]) (h1.weak fun c _ hc => ?_) hg (Nat.le_refl _) (fun e => .inl e)
        rcases hc with rfl | hc
        · exact .inl (.inr ⟨m1, b4, m2, b5, b6⟩)
        · exact .inr (.inr hc)
theorem l0_is {n : Nat} (hn : n ≤ 400) {C : List (List Int)} {G : List Int} (hC : Nam n C) (hCl : C.length ≤ 1400) (hcl : ∀ c ∈ C, c.length ≤ 8) : ∀ (z : Nat) (v : List Int), cz v ≤ z → St n C G v [] (fun c => c ∈ C) →
    ∃ r, Res n C G r ∧ ∃ s v', (∀ k, spec_l6Force.l0 (k + s) v true (n : Int) C = some (r.isNone, v')) ∧ (∀ u, r = some u → v' = u)
  | z, v, hz, h => by
    have e0 : ∀ k, spec_l6Force.l0 (k + 1) v true (n : Int) C = spec_l6Force.l1 k v false C (C.length : Int) ((0 : Nat) : Int) (n : Int) C := fun k => by
      rw [spec_l6Force.l0, if_pos rfl]; rfl
    rcases l1_is hn hC hCl hcl C.length 0 v [] false (by omega) (by rw [List.drop_zero]; exact h) (fun _ => rfl) with ⟨r1, s, v', r2⟩ | ⟨s, v', o', g', r1, r2, r3, r4, r5⟩
    · exact ⟨none, r1, s + 1, v', fun k => by rw [← Nat.add_assoc, e0, r2]; rfl, fun u hu => by cases hu⟩
    · cases g' with
      | false =>
        have ho := r3 rfl
        subst ho
        refine ⟨some v', r2, 1 + s + 1, v', fun k => ?_, fun u hu => Option.some.inj hu⟩
        rw [← Nat.add_assoc, e0, ← Nat.add_assoc, r1, spec_l6Force.l0, if_neg (by decide)]
        rfl
      | true =>
        have hlt : cz v' < cz v := by
          rcases r5 rfl with e | e
          · cases e
          · exact e
        cases z with
        | zero => omega
        | succ z =>
          obtain ⟨r, hr, s2, v2, h3, h4⟩ := l0_is hn hC hCl hcl z v' (by omega) (⟨r2.vec, r2.snd, r2.giv, fun c hc => .inr (.inr hc)⟩)
          refine ⟨r, hr, s2 + s + 1, v2, fun k => ?_, h4⟩
          rw [← Nat.add_assoc, e0, ← Nat.add_assoc, r1, h3]
end Go.Proofs.Ytdmngodinbelfaa.Pure

namespace Go.Proofs.Ytdmngodinbelfaa.Pure
open Go.RowKit Go.Proofs.Ytdmngodinbelfaa.X Go.Proofs.YtdmngodinbelfaaW.PrintWords Go.Proofs.YtdmngodinbelfaaW.PrintLast Go.Proofs.YtdmngodinbelfaaW.PrintMore Go.Proofs.Ytdmngodinbelfaa.Bits
/-- A list of n elements, numbered on from m. -/
def mkInt (m : Int) : Nat → List Int
  | 0 => []
  | n + 1 => m :: mkInt (m + 1) n
theorem mkInt_len (n : Nat) : ∀ m, (mkInt m n).length = n := by
  induction n with
  | zero => intro m; rfl
  | succ n ih => intro m; simp [mkInt, ih]
theorem mkInt_snoc (n : Nat) : ∀ m, mkInt m (n + 1) = mkInt m n ++ [m + 1 * (n : Int)] := by
  induction n with
  | zero => intro m; simp [mkInt]
  | succ n ih =>
    intro m
    rw [mkInt, ih (m + 1), mkInt, List.cons_append]
    have : m + 1 + 1 * (n : Int) = m + 1 * ((n + 1 : Nat) : Int) := by omega
    rw [this]
theorem mkInt_at (m : Int) (n i : Nat) (h : i < n) : rd (mkInt m n) (i : Int) = m + 1 * (i : Int) := by
  induction n generalizing m i with
  | zero => omega
  | succ n ih =>
    cases i with
    | zero => simp [rd, mkInt]
    | succ i =>
      have := ih (m + 1) i (by omega)
      unfold rd at this ⊢
      rw [Int.toNat_natCast] at this ⊢
      rw [mkInt, List.getD_cons_succ, this]
      have e : m + 1 + 1 * (i : Int) = m + 1 * ((i + 1 : Nat) : Int) := by omega
      rw [e]
theorem markInt_loop (b : Int) (hb : 0 ≤ b) (hb2 : b ≤ 100000000) (l : List Int) (hl : l.length ≤ 1048576) (d : Nat) : ∀ (i k : Nat), i + d = l.length → d < k →
    laws_markIntS.l0 k (mkInt b i ++ l.drop i) (b + 1 * (i : Int)) (i : Int) = some (b + 1 * (l.length : Int), mkInt b l.length) := by
  induction d with
  | zero =>
    intro i k hi hk
    obtain ⟨k, rfl⟩ : ∃ m, k = m + 1 := ⟨k - 1, by omega⟩
    obtain rfl : i = l.length := by omega
    simp only [laws_markIntS.l0]
    rw [if_neg (by simp [mkInt_len]), List.drop_eq_nil_of_le (by omega), List.append_nil]
  | succ d ih =>
    intro i k hi hk
    obtain ⟨k, rfl⟩ : ∃ m, k = m + 1 := ⟨k - 1, by omega⟩
    have hit : i < l.length := by omega
    have e1 : wrap64 ((i : Int) + 1) = ((i + 1 : Nat) : Int) := by rw [wrap64_id _ (by omega) (by omega)]; omega
    have q0 : wrap64 (b + 1 * (i : Int) + 1) = b + 1 * ((i + 1 : Nat) : Int) := by rw [wrap64_id _ (by omega) (by omega)]; omega
    have hd : l.drop i = l[i] :: l.drop (i + 1) := List.drop_eq_getElem_cons hit
    have hset : ∀ y z : Int, (mkInt b i ++ y :: l.drop (i + 1)).set i z = mkInt b i ++ z :: l.drop (i + 1) := fun y z => set_mid _ _ _ _ _ (by rw [mkInt_len])
    simp only [laws_markIntS.l0]
    rewrite [if_pos (by simp [mkInt_len]; omega), if_pos (by omega)]
    (try simp only [Option.bind_some])
    rewrite [hd, Int.toNat_natCast, hset, e1, q0]
    have := ih (i + 1) k (by omega) (by omega)
    rw [mkInt_snoc, List.append_assoc] at this
    exact this
theorem markInt_val (k : Nat) (b : Int) (hb : 0 ≤ b) (hb2 : b ≤ 100000000) (l : List Int) (hl : l.length ≤ 1048576) (hk : l.length < k) : laws_markIntS.f k l b = some (b + 1 * (l.length : Int), mkInt b l.length) := by
  have := markInt_loop b hb hb2 l hl l.length 0 k (by omega) hk
  unfold laws_markIntS.f
  simpa [mkInt] using this
theorem heldInt_loop (b : Int) (hb : 0 ≤ b) (hb2 : b ≤ 100000000) (n : Nat) (hn : n ≤ 1048576) (d : Nat) : ∀ (i k : Nat), i + d = n → d < k →
    laws_heldIntS.l0 k (mkInt b n) (b + 1 * (i : Int)) (i : Int) = some (b + 1 * (n : Int)) := by
  induction d with
  | zero =>
    intro i k hi hk
    obtain ⟨k, rfl⟩ : ∃ m, k = m + 1 := ⟨k - 1, by omega⟩
    obtain rfl : i = n := by omega
    simp only [laws_heldIntS.l0]
    rw [if_neg (by rw [mkInt_len]; omega)]
  | succ d ih =>
    intro i k hi hk
    obtain ⟨k, rfl⟩ : ∃ m, k = m + 1 := ⟨k - 1, by omega⟩
    have e1 : wrap64 ((i : Int) + 1) = ((i + 1 : Nat) : Int) := by rw [wrap64_id _ (by omega) (by omega)]; omega
    have q0 : wrap64 (b + 1 * (i : Int) + 1) = b + 1 * ((i + 1 : Nat) : Int) := by rw [wrap64_id _ (by omega) (by omega)]; omega
    simp only [laws_heldIntS.l0]
    rewrite [if_pos (by rw [mkInt_len]; omega), if_pos (by omega), mkInt_at b n i (by omega), q0]
    rewrite [if_pos (by rfl), e1]
    exact ih (i + 1) k (by omega) (by omega)
theorem heldInt_val (k : Nat) (b : Int) (hb : 0 ≤ b) (hb2 : b ≤ 100000000) (n : Nat) (hn : n ≤ 1048576) (hk : n < k) : laws_heldIntS.f k (mkInt b n) b = some (b + 1 * (n : Int)) := by
  have := heldInt_loop b hb hb2 n hn n 0 k (by omega) hk
  unfold laws_heldIntS.f
  simpa using this

end Go.Proofs.Ytdmngodinbelfaa.Pure

namespace Go.Proofs.Ytdmngodinbelfaa.Pure
open Go.RowKit Go.Proofs.Ytdmngodinbelfaa.X Go.Proofs.YtdmngodinbelfaaW.PrintWords Go.Proofs.YtdmngodinbelfaaW.PrintLast Go.Proofs.YtdmngodinbelfaaW.PrintMore Go.Proofs.Ytdmngodinbelfaa.Bits
theorem idx_loop (x : Int) (l : List Int) (hl : l.length ≤ 1048576) (d : Nat) : ∀ (i k : Nat), i + d = l.length → d < k → ∃ r, slices_Index_int.l0 k l x (l.length : Int) (i : Int) = some r ∧ decide (r ≥ 0) = decide (x ∈ l.drop i) := by
  induction d with
  | zero =>
    intro i k hi hk
    obtain ⟨k, rfl⟩ : ∃ m, k = m + 1 := ⟨k - 1, by omega⟩
    simp only [slices_Index_int.l0]
    rw [if_neg (by omega), List.drop_eq_nil_of_le (by omega)]
    exact ⟨_, rfl, rfl⟩
  | succ d ih =>
    intro i k hi hk
    obtain ⟨k, rfl⟩ : ∃ m, k = m + 1 := ⟨k - 1, by omega⟩
    have hit : i < l.length := by omega
    have e1 : wrap64 ((i : Int) + 1) = ((i + 1 : Nat) : Int) := by rw [wrap64_id _ (by omega) (by omega)]; omega
    have hd : l.drop i = l[i] :: l.drop (i + 1) := List.drop_eq_getElem_cons hit
    simp only [slices_Index_int.l0]
    rewrite [if_pos (by omega), if_pos (by omega), if_pos (by omega), rdInt_at hit, e1, hd]
    by_cases hx : x = l[i]
    · rewrite [if_pos hx]
      refine ⟨_, rfl, ?_⟩
      rw [decide_eq_true (show (i : Int) ≥ 0 by omega), decide_eq_true (show x ∈ l[i] :: l.drop (i + 1) by rw [hx]; exact List.mem_cons_self)]
    · rewrite [if_neg hx]
      obtain ⟨r, h1, h2⟩ := ih (i + 1) k (by omega) (by omega)
      refine ⟨r, h1, h2.trans ?_⟩
      exact decide_eq_decide.mpr ⟨fun h => List.mem_cons_of_mem _ h, fun h => (List.mem_cons.1 h).resolve_left hx⟩
theorem cont_val (l : List Int) (hl : l.length ≤ 1048576) (x : Int) (k : Nat) (hk : l.length < k) : slices_Contains_int.f k l x = some (decide (x ∈ l)) := by
  unfold slices_Contains_int.f slices_Index_int.f
  obtain ⟨r, h1, h2⟩ := idx_loop x l hl l.length 0 k (by omega) hk
  rw [Int.natCast_zero] at h1
  rw [h1]
  simp only [Option.bind_some]
  rw [h2, List.drop_zero]
/-- Behind the program's test of the given literals. -/
def finI (n : Int) (C : List (List Int)) (G : List Int) (k : Nat) : Option (List Int × Bool × Bool) :=
  (impl_Cnf_forced.f k n C G).bind fun b => if b.2 = true then some (([] : List Int), true, true) else impl_Forced.l1 k ([] : List Int) b.1 (b.1.length : Int) 0
theorem implG_loop {n : Nat} (hn : n ≤ 400) (C : List (List Int)) (G : List Int) (hG : G.length ≤ 1048576) (d : Nat) : ∀ i, i + d = G.length → ∀ k, G.length < k →
    impl_Forced.l0 (k + d + 1) G G (G.length : Int) (i : Int) (n : Int) C = if gB (n : Int) (G.take i) (G.drop i) = true then finI (n : Int) C G k else some ([], false, false) := by
  induction d with
  | zero =>
    intro i hi k hk
    rw [impl_Forced.l0, if_neg (by omega), List.drop_eq_nil_of_le (by omega), gB, if_pos rfl]
    rfl
  | succ d ih =>
    intro i hi k hk
    have hit : i < G.length := by omega
    have e1 : wrap64 ((i : Int) + 1) = ((i + 1 : Nat) : Int) := by rw [wrap64_id _ (by omega) (by omega)]; omega
    have hd : G.drop i = G[i] :: G.drop (i + 1) := List.drop_eq_getElem_cons hit
    have ht : G.take i ++ [G[i]] = G.take (i + 1) := by rw [List.take_add_one, List.getElem?_eq_getElem hit, Option.toList_some]
    have htl : (G.take i).length < k + d + 1 := by rw [List.length_take]; omega
    have htl2 : (G.take i).length ≤ 1048576 := by rw [List.length_take]; omega
    rw [show k + (d + 1) + 1 = (k + d + 1) + 1 by omega, impl_Forced.l0, if_pos (by omega), if_pos (by omega), if_pos (by omega), rdInt_at hit, isLiteral_val _ _ (by omega) (by omega), Option.bind_some, hd, gB, ht]
    by_cases h1 : litB (n : Int) G[i] = true
    · rw [if_pos h1, if_pos (by omega), Int.toNat_natCast, cont_val _ htl2 _ _ htl, Option.bind_some, h1, Bool.true_and]
      by_cases h2 : G[i] ∈ G.take i
      · rw [if_pos (decide_eq_true h2), decide_eq_true h2]; rfl
      · rw [if_neg (by rw [decide_eq_false h2]; decide), cont_val _ htl2 _ _ htl, Option.bind_some, decide_eq_false h2]
        have hl := lit_abs h1
        rw [wrap64_id (-G[i]) (by omega) (by omega)]
        by_cases h3 : -G[i] ∈ G.take i
        · rw [if_pos (decide_eq_true h3), decide_eq_true h3]; rfl
        · rw [if_neg (by rw [decide_eq_false h3]; decide), decide_eq_false h3, e1, ih (i + 1) (by omega) k hk]
          rfl
    · rw [if_neg h1, Bool.eq_false_iff.2 h1]
      rfl
/-- The forced literals in the order of their names. -/
def outL : Int → List Int → List Int
  | _, [] => []
  | i, y :: t => if y = 0 then outL (i + 1) t else wrap64 (i * y) :: outL (i + 1) t
theorem outL_len : ∀ (t : List Int) (i : Int), (outL i t).length ≤ t.length
  | [], _ => Nat.le_refl _
  | y :: t, i => by
    rw [outL]
    have := outL_len t (i + 1)
    split
    · rw [List.length_cons]; omega
    · rw [List.length_cons, List.length_cons]; omega
theorem implO_loop (v : List Int) (hv : v.length ≤ 1000) (d : Nat) : ∀ (i k : Nat) (acc : List Int), i + d = v.length → d < k → acc.length ≤ i → impl_Forced.l1 k acc v (v.length : Int) (i : Int) = some (acc ++ outL (i : Int) (v.drop i), false, true) := by
  induction d with
  | zero =>
    intro i k acc hi hk ha
    obtain ⟨k, rfl⟩ : ∃ m, k = m + 1 := ⟨k - 1, by omega⟩
    rw [impl_Forced.l1, if_neg (by omega), List.drop_eq_nil_of_le (by omega), outL, List.append_nil]
  | succ d ih =>
    intro i k acc hi hk ha
    obtain ⟨k, rfl⟩ : ∃ m, k = m + 1 := ⟨k - 1, by omega⟩
    have hit : i < v.length := by omega
    have e1 : wrap64 ((i : Int) + 1) = ((i + 1 : Nat) : Int) := by rw [wrap64_id _ (by omega) (by omega)]; omega
    have hd : v.drop i = v[i] :: v.drop (i + 1) := List.drop_eq_getElem_cons hit
    rw [impl_Forced.l1, if_pos (by omega), if_pos (by omega), if_pos (by omega), rdInt_at hit, e1, hd, outL]
    by_cases h : v[i] = 0
    · rw [if_pos h, if_pos h, ih (i + 1) k acc (by omega) (by omega) (by omega)]; rfl
    · rw [if_neg h, if_neg h, if_pos (by omega), ih (i + 1) k _ (by omega) (by omega) (by rw [List.length_append, List.length_singleton]; omega), List.append_assoc]; rfl
theorem specO_loop (n : Nat) (hn : n ≤ 400) (C : List (List Int)) (v : List Int) (hv : v.length = n + 1) (d : Nat) : ∀ (i k : Nat) (acc : List Int), i + d = v.length → d < k → acc.length ≤ i → spec_Forced.l1 k v acc (i : Int) (n : Int) C = some (acc ++ outL (i : Int) (v.drop i), false, true) := by
  induction d with
  | zero =>
    intro i k acc hi hk ha
    obtain ⟨k, rfl⟩ : ∃ m, k = m + 1 := ⟨k - 1, by omega⟩
    rw [spec_Forced.l1, if_neg (by omega), List.drop_eq_nil_of_le (by omega), outL, List.append_nil]
  | succ d ih =>
    intro i k acc hi hk ha
    obtain ⟨k, rfl⟩ : ∃ m, k = m + 1 := ⟨k - 1, by omega⟩
    have hit : i < v.length := by omega
    have e1 : wrap64 ((i : Int) + 1) = ((i + 1 : Nat) : Int) := by rw [wrap64_id _ (by omega) (by omega)]; omega
    have hd : v.drop i = v[i] :: v.drop (i + 1) := List.drop_eq_getElem_cons hit
    rw [spec_Forced.l1, if_pos (by omega), if_pos (by omega), if_pos (by omega), rdInt_at hit, e1, hd, outL]
    by_cases h : v[i] = 0
    · rw [if_pos h, if_pos h, ih (i + 1) k acc (by omega) (by omega) (by omega)]; rfl
    · rw [if_neg h, if_neg h, if_pos (by omega), ih (i + 1) k _ (by omega) (by omega) (by rw [List.length_append, List.length_singleton]; omega), List.append_assoc]; rfl
theorem outL_at0 {n : Nat} {v : List Int} (h : Vec n v) : outL 1 (v.drop 1) = outL 0 v := by
  have h0 := h.at0
  have hl := h.len
  cases v with
  | nil => simp at hl
  | cons y t =>
    have hy : y = 0 := h0
    rw [hy]
    rfl
/-- Behind the reference's test of the given literals. -/
def finS (n : Int) (C : List (List Int)) (v : List Int) (k : Nat) : Option (List Int × Bool × Bool) :=
  (spec_l6Force.f k n C v).bind fun b => if b.1 = true then some (([] : List Int), true, true) else spec_Forced.l1 k b.2 ([] : List Int) 1 n C
theorem specG_loop {n : Nat} (hn : n ≤ 400) (C : List (List Int)) (G : List Int) (hG : G.length ≤ 1048576) (d : Nat) : ∀ (i : Nat) (v : List Int), i + d = G.length → Vec n v → (∀ y, tr v y ↔ y ∈ G.take i) → ∀ k,
    spec_Forced.l0 (k + 2 * d + 1) v G (G.length : Int) (i : Int) (n : Int) C = if gB (n : Int) (G.take i) (G.drop i) = true then finS (n : Int) C ((G.drop i).foldl stG (v, G.take i)).1 k else some ([], false, false) := by
  induction d with
  | zero =>
    intro i v hi hv ht k
    rw [spec_Forced.l0, if_neg (by omega), List.drop_eq_nil_of_le (by omega), gB, if_pos rfl]
    rfl
  | succ d ih =>
    intro i v hi hv htr k
    have hit : i < G.length := by omega
    have e1 : wrap64 ((i : Int) + 1) = ((i + 1 : Nat) : Int) := by rw [wrap64_id _ (by omega) (by omega)]; omega
    have hd : G.drop i = G[i] :: G.drop (i + 1) := List.drop_eq_getElem_cons hit
    have ht : G.take i ++ [G[i]] = G.take (i + 1) := by rw [List.take_add_one, List.getElem?_eq_getElem hit, Option.toList_some]
    have hbad : ∀ k, spec_Forced.j2 (k + 1) v G[i] G (G.length : Int) (i : Int) true (n : Int) C = some ([], false, false) := fun k => by rw [spec_Forced.j2, if_pos rfl]
    rw [show k + 2 * (d + 1) + 1 = (k + 2 * d + 1 + 1) + 1 by omega, spec_Forced.l0, if_pos (by omega), if_pos (by omega), if_pos (by omega), rdInt_at hit, hd, gB, ht]
    by_cases h0 : G[i] = 0
    · rw [if_pos h0, hbad, show litB (n : Int) G[i] = false from decide_eq_false (by omega)]
      rfl
    · rw [if_neg h0, l1In_lit _ _ (by omega) (by omega), Option.bind_some]
      by_cases h1 : -(n : Int) ≤ G[i] ∧ G[i] ≤ (n : Int)
      · have hlit : litB (n : Int) G[i] = true := decide_eq_true ⟨h0, h1.1, h1.2⟩
        have hl := lit_abs hlit
        obtain ⟨s, hs1, hs2, hs3⟩ := sign_is hn hv hl
        rw [if_pos (decide_eq_true h1), hs1, Option.bind_some, hlit, Bool.true_and]
        by_cases hs : s = 0
        · have hu := hs3.1 hs
          have n1 : ¬ G[i] ∈ G.take i := fun e => tr_un ((htr _).2 e) hu
          have n2 : ¬ -G[i] ∈ G.take i := fun e => tr_un ((htr _).2 e) (un_neg.2 hu)
          rw [decide_eq_false n1, decide_eq_false n2, hs, spec_Forced.j2, if_neg (by decide)]
          have hvl := hv.len
          have hset : ∀ k2, (if G[i] < 0 then (if 0 ≤ wrap64 (-G[i]) then (if wrap64 (-G[i]) < (v.length : Int) then spec_Forced.l0 k2 (v.set (wrap64 (-G[i]) : Int).toNat (-1)) G (G.length : Int) (wrap64 ((i : Int) + 1)) (n : Int) C else none) else none) else (if 0 ≤ G[i] then (if G[i] < (v.length : Int) then spec_Forced.l0 k2 (v.set (G[i] : Int).toNat 1) G (G.length : Int) (wrap64 ((i : Int) + 1)) (n : Int) C else none) else none)) = spec_Forced.l0 k2 (setL v G[i]) G (G.length : Int) ((i + 1 : Nat) : Int) (n : Int) C := fun k2 => by
            unfold setL foS
            rw [e1, wrap64_id _ (by omega) (by omega)]
            by_cases hl0 : G[i] < 0
            · rw [if_pos hl0, if_pos (by omega), if_pos (by omega), if_pos hl0, show (-G[i]).toNat = G[i].natAbs by omega]
            · rw [if_neg hl0, if_pos (by omega), if_pos (by omega), if_neg hl0, if_pos (by omega), show G[i].toNat = G[i].natAbs by omega]
          rw [hset, ih (i + 1) (setL v G[i]) (by omega) (vec_set hv hl.1 hl.2) (fun y => by rw [tr_set hv hl.1 hl.2 hu, htr, ← ht, List.mem_append, List.mem_singleton]) k, List.foldl_cons,
            show stG (v, G.take i) G[i] = (setL v G[i], G.take (i + 1)) by unfold stG; rw [(setV_is hn hl.2 hu (G.take i)).1, (setV_is hn hl.2 hu (G.take i)).2, ht]]
          rfl
        · have hb : (s != 0) = true := by rw [bne_iff_ne]; exact hs
          rw [hb, hbad]
          rcases tri hv hl.1 with e | e | e
          · rw [decide_eq_true ((htr _).1 e)]; rfl
          · rw [decide_eq_true ((htr _).1 e)]
            by_cases h2 : G[i] ∈ G.take i
            · rw [decide_eq_true h2]; rfl
            · rw [decide_eq_false h2]; rfl
          · exact absurd (hs3.2 e) hs
      · rw [if_neg (by rw [decide_eq_false h1]; decide), hbad, show litB (n : Int) G[i] = false from decide_eq_false (fun e => h1 e.2)]
        rfl
theorem cz_pos {n : Nat} {v : List Int} (h : Vec n v) : 1 ≤ cz v := by
  have h0 := h.at0
  have hl := h.len
  cases v with
  | nil => simp at hl
  | cons y t =>
    have hy : y = 0 := h0
    unfold cz
    rw [hy, List.count_cons_self]
    omega
/-- What both sides answer at a run's end. -/
def ansR : Option (List Int) → List Int × Bool × Bool
  | none => ([], true, true)
  | some v => (outL 0 v, false, true)
theorem both_is (n : Int) (C : List (List Int)) (G : List Int) (hG : G.length ≤ 1048576) : ∃ R : List Int × Bool × Bool, R.1.length ≤ 1000 ∧ ∃ K, ∀ k, K ≤ k → impl_Forced.f k n C G = some R ∧ spec_Forced.f k n C G = some R := by
  have hj : ∀ k, spec_Forced.j0 (k + 1) G true n C = some ([], false, false) := fun k => by rw [spec_Forced.j0, if_pos rfl]
  by_cases h : cnfB n C = true
  case neg =>
    refine ⟨([], false, false), by simp, 1501, fun k hk => ?_⟩
    unfold impl_Forced.f spec_Forced.f
    rw [implCnf_val, specCnf_val _ _ k (by omega), Option.bind_some, Option.bind_some, if_neg h, if_neg h]
    obtain ⟨k, rfl⟩ : ∃ m, k = m + 1 := ⟨k - 1, by omega⟩
    exact ⟨rfl, hj k⟩
  obtain ⟨b1, b2, b3, b4⟩ := cnB_is h
  obtain ⟨n, rfl⟩ : ∃ m : Nat, n = (m : Int) := ⟨n.toNat, by omega⟩
  have hn : n ≤ 400 := by omega
  have hC := nam_of h
  have hcl : ∀ c ∈ C, c.length ≤ 8 := fun c hc => (clB_is (b4 c hc)).1
  obtain ⟨z1, z2, z3⟩ := vec0 n
  have hI : ∀ k, 2 * G.length + 1 < k → impl_Forced.f k (n : Int) C G = if gB (n : Int) [] G = true then finI (n : Int) C G (k - G.length - 1) else some ([], false, false) := fun k hk => by
    unfold impl_Forced.f
    rw [implCnf_val, Option.bind_some, if_pos h]
    have := implG_loop hn C G hG G.length 0 (by omega) (k - G.length - 1) (by omega)
    rw [show k - G.length - 1 + G.length + 1 = k by omega] at this
    exact this
  have hS : ∀ k, 1500 + 2 * G.length + 2 < k → spec_Forced.f k (n : Int) C G = if (G.length : Int) > (n : Int) then some ([], false, false) else if gB (n : Int) [] G = true then finS (n : Int) C (G.foldl stG (List.replicate (n + 1) 0, [])).1 (k - 2 * G.length - 2) else some ([], false, false) := fun k hk => by
    unfold spec_Forced.f
    rw [specCnf_val _ _ k (by omega), Option.bind_some, if_pos h]
    have := specG_loop hn C G hG G.length 0 (List.replicate (n + 1) 0) (by omega) z1 z2 (k - 2 * G.length - 2)
    rw [show k - 2 * G.length - 2 + 2 * G.length + 1 = k - 1 by omega] at this
    obtain ⟨k, rfl⟩ : ∃ m, k = m + 1 := ⟨k - 1, by omega⟩
    by_cases hg : (G.length : Int) > (n : Int)
    · rw [if_pos hg, decide_eq_true hg, hj]
    · rw [if_neg hg, decide_eq_false hg, spec_Forced.j0, if_neg (by decide), wrap64_id _ (by omega) (by omega), if_pos (by omega), if_pos (by omega), show ((n : Int) + 1).toNat = n + 1 by omega]
      exact this
  by_cases hg : gB (n : Int) [] G = true
  case neg =>
    refine ⟨([], false, false), by simp, 1500 + 2 * G.length + 3, fun k hk => ?_⟩
    rw [hI k (by omega), hS k (by omega), if_neg hg, if_neg hg]
    exact ⟨rfl, by split <;> rfl⟩
  obtain ⟨v0, e1, e2, e3, e4⟩ := start_is (C := C) hn hg
  obtain ⟨r, hr, hi⟩ := cnfForced_is h hg
  obtain ⟨r2, hr2, s, v', hs, hu⟩ := l0_is hn hC (by omega) hcl (cz v0) v0 (Nat.le_refl _) (e2 [] _ fun c hc => hc)
  have hsame := Res.same hr hr2
  subst hsame
  have hlen : G.length ≤ n := by have := cz_pos e4; omega
  have hv : ∀ v, r = some v → Vec n v := fun v e => by rw [e] at hr; exact St.vec hr
  refine ⟨ansR r, ?_, 1500 + 2 * G.length + 3 + s + n + 10 + G.length, fun k hk => ?_⟩
  · cases r with
    | none => simp [ansR]
    | some v =>
      have := outL_len v 0
      have := (hv v rfl).len
      show (outL 0 v).length ≤ 1000
      omega
  · rw [hI k (by omega), hS k (by omega), if_pos hg, if_neg (by omega), if_pos hg, e1]
    constructor
    · unfold finI
      rw [hi _ (by omega), Option.bind_some]
      cases r with
      | none => rfl
      | some v =>
        have hl := (hv v rfl).len
        have := implO_loop v (by omega) v.length 0 (k - G.length - 1) [] (by omega) (by omega) (by simp)
        exact this
    · unfold finS spec_l6Force.f
      have := hs (k - 2 * G.length - 2 - s)
      rw [show k - 2 * G.length - 2 - s + s = k - 2 * G.length - 2 by omega] at this
      rw [show ((v0, G) : List Int × List Int).1 = v0 from rfl, this, Option.bind_some]
      cases r with
      | none => rfl
      | some v =>
        have hl := (hv v rfl).len
        have hvv := hu v rfl
        subst hvv
        have := specO_loop n hn C v' hl n 1 (k - 2 * G.length - 2) [] (by omega) (by omega) (by simp)
        rw [List.nil_append, show (((1 : Nat) : Int)) = 1 from rfl, outL_at0 (hv v' rfl)] at this
        exact this
theorem isCnt_total (l : List (List Int)) : isCnt l = total l := by
  unfold isCnt total
  rw [List.length_flatten]
theorem FnExactForced : laws_FnExactForced.Pure := by
  intro a0 l0 l1 _ h2 h3
  by_cases h4 : (l1.length : Int) > 1048576
  · exact ⟨0, by unfold laws_FnExactForced.f; rw [if_pos h4]⟩
  have hb : ∀ a ∈ l0, a.length ≤ 9223372036854775807 := fun a ha => by have := (h2.2 a ha).1; unfold maxLen at this; omega
  have hl : l0.length ≤ 9223372036854775807 := by have := h2.1; unfold maxLen at this; omega
  by_cases hs : small l0
  case neg =>
    obtain ⟨K, hK⟩ := szCnf_big a0 l0 hl hb hs
    refine ⟨K, ?_⟩
    unfold laws_FnExactForced.f
    rw [if_neg h4, hK K (Nat.le_refl _), Option.bind_some, if_pos (by decide)]
  have hs' : l0.length + total l0 ≤ 1048576 := hs
  obtain ⟨R, hR, K, hK⟩ := both_is a0 l0 l1 (by omega)
  obtain ⟨x, b1, b2⟩ := R
  have hx : x.length ≤ 1000 := hR
  obtain ⟨m, hm⟩ : ∃ m, m = K + l0.length + total l0 + l1.length + 2000 := ⟨_, rfl⟩
  have hkk : ∀ k, m ≤ k → impl_Forced.f k a0 l0 l1 = some (x, b1, b2) ∧ spec_Forced.f k a0 l0 l1 = some (x, b1, b2) := fun k hk => hK k (by omega)
  have hto : ∀ k, m ≤ k → laws_toCnf.f k a0 l0 = some (a0, l0) := fun k hk => toCnf_val k a0 l0 hs (by omega)
  have hti : ∀ k, m ≤ k → laws_toIntS.f k l1 = some l1 := fun k hk => toInt_val k l1 (by omega) (by omega)
  have heq : ∀ k, m ≤ k → laws_eqCnf.f k a0 l0 a0 l0 = some true := fun k hk => eqCnf_val k a0 l0 hs (by omega)
  have hei : ∀ k, m ≤ k → laws_eqIntS.f k l1 l1 = some true := fun k hk => eqInt_val k l1 (by omega) (by omega)
  have hex : ∀ k, m ≤ k → laws_eqIntS.f k x x = some true := fun k hk => eqInt_val k x (by omega) (by omega)
  have hbb : ∀ b : Bool, (b != b) = false := fun b => by cases b <;> rfl
  have hmk : laws_markCnf.f a0 l0 1 = some (1 + (isCnt l0 : Int)) := by
    unfold laws_markCnf.f
    rw [isCnt_total, if_pos ⟨by decide, by omega, by omega⟩]
  have hmi : ∀ k, m ≤ k → laws_markIntS.f k l1 (1 + (isCnt l0 : Int)) = some (1 + (isCnt l0 : Int) + 1 * (l1.length : Int), mkInt (1 + (isCnt l0 : Int)) l1.length) := fun k hk => by
    have := isCnt_total l0
    exact markInt_val k _ (by omega) (by omega) l1 (by omega) (by omega)
  have hmx : ∀ k, m ≤ k → laws_markIntS.f k x 1 = some (1 + 1 * (x.length : Int), mkInt 1 x.length) := fun k hk => markInt_val k 1 (by decide) (by decide) x (by omega) (by omega)
  have hhx : ∀ k, m ≤ k → laws_heldIntS.f k (mkInt 1 x.length) 1 = some (1 + 1 * (x.length : Int)) := fun k hk => heldInt_val k 1 (by decide) (by decide) x.length (by omega) (by omega)
  have hj2 : ∀ k, m ≤ k → laws_FnExactForced.j2 (k + 1) (mkInt 1 x.length) (1 + 1 * (x.length : Int)) false = some true := fun k hk => by
    rw [laws_FnExactForced.j2, if_neg (by decide), hhx k hk, Option.bind_some, if_neg (by omega), if_pos rfl]
  have hj1 : ∀ k, m ≤ k → laws_FnExactForced.j1 (k + 2) l1 x b1 b2 x false a0 l0 = some true := fun k hk => by
    rw [laws_FnExactForced.j1, if_neg (by decide), hmx _ (by omega), Option.bind_some]
    dsimp only
    rw [hhx _ (by omega), Option.bind_some, if_neg (by omega), if_pos rfl, hto _ (by omega), Option.bind_some, hti _ (by omega), Option.bind_some]
    dsimp only
    rw [(hkk _ (by omega)).1, Option.bind_some]
    dsimp only
    rw [hex _ (by omega), Option.bind_some, if_pos rfl, hbb, if_neg (by decide), hbb]
    exact hj2 k hk
  refine ⟨m + 3, ?_⟩
  unfold laws_FnExactForced.f
  rw [if_neg h4, szCnf_val a0 l0 hl hb (m + 3) (fun _ => by omega) hs, Option.bind_some, if_neg (by omega), hto _ (by omega), Option.bind_some, hti _ (by omega), Option.bind_some]
  dsimp only
  rw [(hkk _ (by omega)).2, Option.bind_some]
  dsimp only
  rw [Option.bind_some]
  dsimp only
  rw [Option.bind_some, (hkk _ (by omega)).1, Option.bind_some]
  dsimp only
  rw [hex _ (by omega), Option.bind_some, if_pos rfl, hbb, if_neg (by decide), hbb]
  rw [laws_FnExactForced.j0, if_neg (by decide), hto _ (by omega), Option.bind_some]
  dsimp only
  rw [heq _ (by omega), Option.bind_some, if_pos rfl, hti _ (by omega), Option.bind_some, hei _ (by omega), Option.bind_some, if_pos rfl, hmk, Option.bind_some, hmi _ (by omega), Option.bind_some]
  dsimp only
  rw [if_neg (by omega), hex _ (by omega), Option.bind_some, if_pos rfl, hbb, if_neg (by decide), hbb]
  exact hj1 m (Nat.le_refl _)
end Go.Proofs.Ytdmngodinbelfaa.Pure
