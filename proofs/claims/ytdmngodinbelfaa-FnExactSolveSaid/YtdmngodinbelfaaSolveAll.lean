/- Bits of 64-bit words as the model tells them: and, or, xor, shifts and masks as remainders and powers of two. No condition. The laws' own list functions (copying, comparing, measuring, writing over, looking again) come to plain lists. Conditions: lists no longer than 2^20. Written by wip/xp/lists.py. The law on GoodCnf: both sides come to one plain test of the clauses. Conditions: those of the law's own Pure. Unit propagation in plain lists: what is derivable, what a sign vector makes true, and that two ends of any two runs agree. Conditions: literals of clauses have names 1 to n. Unit propagation as the program does it, with a queue and lists of clauses: it comes to a run's end. Conditions: good clauses, good given literals. Unit propagation as the reference does it, pass by pass over all clauses: it comes to a run's end. Conditions: good clauses, a vector that a run can begin with. The laws' own list functions (copying, comparing, measuring, writing over, looking again) come to plain lists. Conditions: lists no longer than 2^20. Written by wip/xp/lists.py. The laws' own list functions (copying, comparing, measuring, writing over, looking again) come to plain lists. Conditions: lists no longer than 2^20. Written by wip/xp/lists.py. Both searches take the same way: at each node the same values are forced, the same name comes next, and the budget is spent alike. Conditions: good clauses, a budget from 0 to 300. The law on Solve: both searches give the same code, values and count. Conditions: those of the law's own Pure. -/
import Derived.Test.YtdmngodinbelfaaWMore
import Derived.Laws.BitsLemmas
import Derived.Test.YtdmngodinbelfaaXO
import Derived.Test.YtdmngodinbelfaaX1
import Derived.Test.YtdmngodinbelfaaX7
import Derived.Test.YtdmngodinbelfaaX13
import Derived.Test.YtdmngodinbelfaaX19
import Derived.Test.YtdmngodinbelfaaX21
import Derived.Test.YtdmngodinbelfaaX26
import Derived.Test.YtdmngodinbelfaaX28
import Derived.Test.YtdmngodinbelfaaX3
import Derived.Test.YtdmngodinbelfaaX31
import Derived.Test.YtdmngodinbelfaaX36
import Derived.Test.YtdmngodinbelfaaX37
import Derived.Test.YtdmngodinbelfaaX38
import Derived.Test.YtdmngodinbelfaaX40
namespace Go.Proofs.Ytdmngodinbelfaa.Bits
open Go.RowKit Go.Proofs.YtdmngodinbelfaaW.PrintWords

theorem wrap_u64 (n : Int) : IntKind.u64.wrap n = n % 18446744073709551616 := by simp [IntKind.wrap, IntKind.bits, IntKind.signed]
theorem wraps_u64 (n : Int) (h₀ : 0 ≤ n) (h₁ : n < 2 ^ 64) : IntKind.u64.wrap n = n := by rw [wrap_u64]; omega
theorem u64_id (n : Int) (h₀ : 0 ≤ n) (h₁ : n < 18446744073709551616) : IntKind.u64.wrap n = n := by rw [wrap_u64]; omega
theorem u64_range (n : Int) : 0 ≤ IntKind.u64.wrap n ∧ IntKind.u64.wrap n < 18446744073709551616 := by rw [wrap_u64]; omega
theorem and_u64 (a b : Nat) (ha : a < 2 ^ 64) (hb : b < 2 ^ 64) : Go.bits .and .u64 a b = ((a &&& b : Nat) : Int) := (bits_nat .u64 64 (by decide) wraps_u64 a b ha hb).1
theorem or_u64 (a b : Nat) (ha : a < 2 ^ 64) (hb : b < 2 ^ 64) : Go.bits .or .u64 a b = ((a ||| b : Nat) : Int) := (bits_nat .u64 64 (by decide) wraps_u64 a b ha hb).2
theorem xor_nat (k : IntKind) (j : Nat) (hj : j ≤ k.bits) (hk : ∀ n : Int, 0 ≤ n → n < 2 ^ j → k.wrap n = n) (a b : Nat) (ha : a < 2 ^ j) (hb : b < 2 ^ j) :
    Go.bits .xor k a b = ((a ^^^ b : Nat) : Int) := by
  have hp : 2 ^ j ≤ 2 ^ k.bits := Nat.pow_le_pow_right (by decide) hj
  have ha' : a % 2 ^ k.bits = a := Nat.mod_eq_of_lt (Nat.lt_of_lt_of_le ha hp)
  have hb' : b % 2 ^ k.bits = b := Nat.mod_eq_of_lt (Nat.lt_of_lt_of_le hb hp)
  show k.wrap ((BitVec.ofInt k.bits (a : Int) ^^^ BitVec.ofInt k.bits (b : Int)).toNat : Int) = _
  rw [BitVec.ofInt_natCast, BitVec.ofInt_natCast, BitVec.toNat_xor, BitVec.toNat_ofNat, BitVec.toNat_ofNat, ha', hb']
  have h := Int.ofNat_lt.mpr (Nat.xor_lt_two_pow ha hb)
  rw [Int.natCast_pow] at h
  exact hk _ (Int.natCast_nonneg _) h
theorem xor_u64 (a b : Nat) (ha : a < 2 ^ 64) (hb : b < 2 ^ 64) : Go.bits .xor .u64 a b = ((a ^^^ b : Nat) : Int) := xor_nat .u64 64 (by decide) wraps_u64 a b ha hb
theorem bits_range (op : BinOp) (a b : Int) : 0 ≤ Go.bits op .u64 a b ∧ Go.bits op .u64 a b < 18446744073709551616 := by
  unfold Go.bits; exact u64_range _
theorem wf_i64 {a : Int} (h : (Lit.int .i64 a).wf = true) : -9223372036854775808 ≤ a ∧ a ≤ 9223372036854775807 := by
  simpa [Lit.wf, IntKind.min, IntKind.max, IntKind.signed, IntKind.bits] using h
theorem wf_u64 {a : Int} (h : (Lit.int .u64 a).wf = true) : 0 ≤ a ∧ a < 18446744073709551616 := by
  have : 0 ≤ a ∧ a ≤ 18446744073709551615 := by
    simpa [Lit.wf, IntKind.min, IntKind.max, IntKind.signed, IntKind.bits] using h
  omega
theorem wrap64_id (n : Int) (h0 : -9223372036854775808 ≤ n) (h1 : n ≤ 9223372036854775807) : wrap64 n = n := by unfold wrap64; omega

theorem pow_le (n : Nat) (h : n ≤ 64) : (2 : Int) ^ n ≤ 18446744073709551616 := by
  have h2 := Int.ofNat_le.mpr (Nat.pow_le_pow_right (n := 2) (by decide) h)
  rw [Int.natCast_pow] at h2
  exact h2
theorem pow_pos (n : Nat) : (0 : Int) < 2 ^ n := Int.pow_pos (by decide)

theorem shl_one (k : Nat) (h : k < 64) : shl .u64 1 (k : Int) = ((2 ^ k : Nat) : Int) := by
  have hb : IntKind.u64.bits = 64 := rfl
  unfold shl
  rw [hb, Int.toNat_natCast, Nat.min_eq_left (by omega), Int.one_mul, wraps_u64]
  · simp
  · exact Int.le_of_lt (Int.pow_pos (by decide))
  · exact_mod_cast Nat.pow_lt_pow_right (by decide) h
theorem mod_or_and (a k : Nat) : (a % 2 ^ k) ||| (a &&& 2 ^ k) = a % 2 ^ (k + 1) := by
  apply Nat.eq_of_testBit_eq
  intro i
  simp only [Nat.testBit_or, Nat.testBit_mod_two_pow, Nat.testBit_and, Nat.testBit_two_pow]
  by_cases h : i < k
  · have h2 : ¬ k = i := by omega
    have h3 : i < k + 1 := by omega
    simp [h, h2, h3]
  · by_cases h2 : k = i
    · subst h2; simp
    · have h3 : ¬ i < k + 1 := by omega
      simp [h, h2, h3]
/-- One round of the lower bits, bit by bit. -/
theorem cut_step (a : Int) (k : Nat) (h0 : 0 ≤ a) (ha : a < 18446744073709551616) (hk : k < 64) :
    Go.bits .or .u64 (a % 2 ^ k) (Go.bits .and .u64 a (shl .u64 1 (k : Int))) = a % 2 ^ (k + 1) := by
  obtain ⟨n, rfl⟩ := Int.eq_ofNat_of_zero_le h0
  have hn : n < 2 ^ 64 := by omega
  have e1 : ((n : Int) % 2 ^ k) = ((n % 2 ^ k : Nat) : Int) := by simp
  have e2 : ((n : Int) % 2 ^ (k + 1)) = ((n % 2 ^ (k + 1) : Nat) : Int) := by simp
  rw [e1, e2, shl_one k hk, and_u64 n _ hn (Nat.pow_lt_pow_right (by decide) hk), or_u64 _ _ (Nat.lt_of_le_of_lt (Nat.mod_le _ _) hn) (Nat.and_lt_two_pow _ (Nat.pow_lt_pow_right (by decide) hk)), mod_or_and]
theorem mask_val (w : Int) (h0 : 1 ≤ w) (h1 : w ≤ 64) : shr .u64 18446744073709551615 (64 - w) = 2 ^ w.toNat - 1 := by
  obtain ⟨n, rfl⟩ := Int.eq_ofNat_of_zero_le (show 0 ≤ w by omega)
  have hb : IntKind.u64.bits = 64 := rfl
  unfold shr
  rw [hb, Int.toNat_natCast, Nat.min_eq_left (by omega)]
  have e : (64 - (n : Int)).toNat = 64 - n := by omega
  rw [e]
  have hn : n ≤ 64 := by omega
  have hp : 0 < n := by omega
  have h2 : 2 ^ (64 - n) * 2 ^ n = 2 ^ 64 := by rw [← Nat.pow_add]; congr 1; omega
  have hx : 0 < 2 ^ (64 - n) := Nat.two_pow_pos _
  have hy : 0 < 2 ^ n := Nat.two_pow_pos _
  have h3 : (18446744073709551615 : Nat) / 2 ^ (64 - n) = 2 ^ n - 1 := by
    rw [Nat.div_eq_iff hx]
    have h4 : (2 ^ n - 1) * 2 ^ (64 - n) = 2 ^ 64 - 2 ^ (64 - n) := by rw [Nat.sub_mul, Nat.mul_comm, h2]; omega
    have h5 : 2 ^ (64 - n) ≤ 2 ^ 64 := Nat.pow_le_pow_right (by decide) (by omega)
    rw [h4]
    omega
  have h6 : (18446744073709551615 : Int) / 2 ^ (64 - n) = (((18446744073709551615 : Nat) / 2 ^ (64 - n) : Nat) : Int) := by simp
  rw [h6, h3, Int.natCast_sub hy]
  simp
theorem and_mask (a : Int) (n : Nat) (h0 : 0 ≤ a) (ha : a < 18446744073709551616) (hn : n ≤ 64) : Go.bits .and .u64 a (2 ^ n - 1) = a % 2 ^ n :=
  bits_mask .u64 64 (by decide) wraps_u64 n hn a h0 ha
/-- The lowest bit. -/
theorem and_one (a : Int) (h0 : 0 ≤ a) (ha : a < 18446744073709551616) : Go.bits .and .u64 a 1 = a % 2 := by
  have := and_mask a 1 h0 ha (by decide)
  simpa using this
/-- The complement. -/
theorem xor_max (a : Int) (h0 : 0 ≤ a) (ha : a < 18446744073709551616) : Go.bits .xor .u64 18446744073709551615 a = 18446744073709551615 - a := by
  obtain ⟨n, rfl⟩ := Int.eq_ofNat_of_zero_le h0
  have hn : n < 2 ^ 64 := by omega
  have := xor_u64 18446744073709551615 n (by decide) hn
  rw [show ((18446744073709551615 : Nat) : Int) = 18446744073709551615 from rfl] at this
  rw [this]
  have h2 : (18446744073709551615 : Nat) ^^^ n = 18446744073709551615 - n := by
    have e1 : (BitVec.allOnes 64 ^^^ BitVec.ofNat 64 n).toNat = 18446744073709551615 ^^^ n := by
      rw [BitVec.toNat_xor, BitVec.toNat_allOnes, BitVec.toNat_ofNat, Nat.mod_eq_of_lt hn]
    have e2 : (BitVec.allOnes 64 ^^^ BitVec.ofNat 64 n) = ~~~ BitVec.ofNat 64 n := BitVec.allOnes_xor
    rw [← e1, e2, BitVec.toNat_not, BitVec.toNat_ofNat, Nat.mod_eq_of_lt hn]
  rw [h2]
  omega
/-- A number below 2^i beside a multiple of 2^i. -/
theorem or_join (x y : Int) (i : Nat) (hi : i ≤ 64) (hx0 : 0 ≤ x) (hx : x % 2 ^ i = 0) (hx1 : x < 18446744073709551616) (hy0 : 0 ≤ y) (hy : y < 2 ^ i) : Go.bits .or .u64 x y = x + y :=
  bits_join .u64 64 (by decide) wraps_u64 i x y hx0 hx hx1 hy0 hy (by have := pow_le i hi; omega)
theorem or_comm (x y : Int) : Go.bits .or .u64 x y = Go.bits .or .u64 y x := by
  unfold Go.bits; simp only [BitVec.or_comm]
theorem or_join' (x y : Int) (i : Nat) (hi : i ≤ 64) (hx0 : 0 ≤ x) (hx : x % 2 ^ i = 0) (hx1 : x < 18446744073709551616) (hy0 : 0 ≤ y) (hy : y < 2 ^ i) : Go.bits .or .u64 y x = y + x := by
  rw [or_comm, or_join x y i hi hx0 hx hx1 hy0 hy, Int.add_comm]
/-- The words of a width. -/
def word (w a : Int) : Prop := 1 ≤ w ∧ w ≤ 64 ∧ 0 ≤ a ∧ a < 2 ^ w.toNat
instance (w a : Int) : Decidable (word w a) := by unfold word; infer_instance
theorem pow_split (w : Int) (h0 : 1 ≤ w) (h1 : w ≤ 64) : (2 : Int) ^ (64 - w).toNat * 2 ^ w.toNat = 18446744073709551616 := by
  rw [← Int.pow_add, show (64 - w).toNat + w.toNat = 64 by omega]; decide
theorem pow_half (w : Int) (h0 : 1 ≤ w) : (2 : Int) ^ w.toNat = 2 * 2 ^ (w - 1).toNat := by
  rw [show w.toNat = (w - 1).toNat + 1 by omega, Int.pow_succ]; omega
/-- The two's complement value. -/
def sgn (w a : Int) : Int := if a < 2 ^ (w - 1).toNat then a else a - 2 ^ w.toNat
end Go.Proofs.Ytdmngodinbelfaa.Bits

namespace Go.Proofs.Ytdmngodinbelfaa.Pure
open Go.RowKit Go.Proofs.Ytdmngodinbelfaa.X Go.Proofs.YtdmngodinbelfaaW.PrintWords Go.Proofs.YtdmngodinbelfaaW.PrintLast Go.Proofs.YtdmngodinbelfaaW.PrintMore Go.Proofs.Ytdmngodinbelfaa.Bits
theorem set_mid {α : Type} (a b : List α) (x y : α) (n : Nat) (h : n = a.length) : (a ++ x :: b).set n y = a ++ y :: b := by
  subst h; simp
theorem rdInt_at {t : List Int} {i : Nat} (h : i < t.length) : rd t (i : Int) = t[i] := by
  unfold rd
  rw [Int.toNat_natCast, List.getD_eq_getElem?_getD, List.getElem?_eq_getElem h]; rfl
theorem szInt_val (l : List Int) (left : Int) (h0 : 0 ≤ left) (h1 : left ≤ 1048576) (hl : l.length ≤ 9223372036854775807) : laws_szIntS.f l left = some (if left < (l.length : Int) then -1 else left - (l.length : Int)) := by
  unfold laws_szIntS.f
  rw [wrap64_id _ (by omega) (by omega)]
  by_cases h : left < (l.length : Int)
  · rw [if_pos (by omega), if_pos h]
  · rw [if_neg (by omega), if_neg h]
theorem toInt_loop (l : List Int) (hl : l.length ≤ 1048576) (d : Nat) : ∀ (i : Nat) (k : Nat), i + d = l.length → d < k →
    laws_toIntS.l0 k l ((l.take i) ++ List.replicate d 0) (i : Int) = some (l) := by
  induction d with
  | zero =>
    intro i k hi hk
    obtain ⟨k, rfl⟩ : ∃ m, k = m + 1 := ⟨k - 1, by omega⟩
    simp only [laws_toIntS.l0]
    rw [if_neg (by omega), List.take_of_length_le (by omega)]
    simp
  | succ d ih =>
    intro i k hi hk
    obtain ⟨k, rfl⟩ : ∃ m, k = m + 1 := ⟨k - 1, by omega⟩
    have hit : i < l.length := by omega
    have e1 : wrap64 ((i : Int) + 1) = ((i + 1 : Nat) : Int) := by rw [wrap64_id _ (by omega) (by omega)]; omega
    simp only [laws_toIntS.l0]
    rewrite [if_pos (by omega), if_pos (by omega)]
    rewrite [if_pos (by simp; omega), rdInt_at hit, e1, Int.toNat_natCast, List.replicate_succ, set_mid _ _ _ _ _ (by simp; omega)]
    have h2 : (l.take i) ++ l[i] :: List.replicate d 0 = (l.take (i + 1)) ++ List.replicate d 0 := by
      rw [List.take_add_one, List.getElem?_eq_getElem hit, Option.toList_some, List.append_assoc]
      rfl
    rewrite [h2]
    exact ih (i + 1) k (by omega) (by omega)
theorem toInt_val (k : Nat) (l : List Int) (hl : l.length ≤ 1048576) (hk : l.length < k) : laws_toIntS.f k l = some (l) := by
  unfold laws_toIntS.f
  rw [if_pos (by omega), Int.toNat_natCast, if_pos (by omega)]
  have := toInt_loop l hl l.length 0 k (by omega) hk
  simpa using this
theorem eqInt_loop (l : List Int) (hl : l.length ≤ 1048576) (d : Nat) : ∀ (i : Nat) (k : Nat), i + d = l.length → d < k → laws_eqIntS.l0 k l l (i : Int) = some true := by
  induction d with
  | zero =>
    intro i k hi hk
    obtain ⟨k, rfl⟩ : ∃ m, k = m + 1 := ⟨k - 1, by omega⟩
    simp only [laws_eqIntS.l0]
    rw [if_neg (by omega)]
  | succ d ih =>
    intro i k hi hk
    obtain ⟨k, rfl⟩ : ∃ m, k = m + 1 := ⟨k - 1, by omega⟩
    have e1 : wrap64 ((i : Int) + 1) = ((i + 1 : Nat) : Int) := by rw [wrap64_id _ (by omega) (by omega)]; omega
    simp only [laws_eqIntS.l0]
    rewrite [if_pos (by omega), if_pos (by omega), if_pos (by omega)]
    rewrite [if_pos trivial]
    rewrite [e1]
    exact ih (i + 1) k (by omega) (by omega)
theorem eqInt_val (k : Nat) (l : List Int) (hl : l.length ≤ 1048576) (hk : l.length < k) : laws_eqIntS.f k l l = some true := by
  unfold laws_eqIntS.f
  rw [if_pos rfl]
  exact eqInt_loop l hl l.length 0 k (by omega) hk

end Go.Proofs.Ytdmngodinbelfaa.Pure

namespace Go.Proofs.Ytdmngodinbelfaa.Pure
open Go.RowKit Go.Proofs.Ytdmngodinbelfaa.X Go.Proofs.YtdmngodinbelfaaW.PrintWords Go.Proofs.YtdmngodinbelfaaW.PrintLast Go.Proofs.YtdmngodinbelfaaW.PrintMore Go.Proofs.Ytdmngodinbelfaa.Bits
theorem rdL_at {α : Type} {t : List (List α)} {i : Nat} (h : i < t.length) : t.getD ((i : Int)).toNat [] = t[i] := by
  rw [Int.toNat_natCast, List.getD_eq_getElem?_getD, List.getElem?_eq_getElem h]; rfl
theorem rdIS_at {t : List (List Int)} {i : Nat} (h : i < t.length) : rd_L1 t (i : Int) = t[i] := rdL_at h
/-- All elements of all rows. -/
def total (l : List (List Int)) : Nat := l.flatten.length
theorem total_cons (a : List Int) (l : List (List Int)) : total (a :: l) = a.length + total l := by simp [total]
theorem total_mem {a : List Int} {l : List (List Int)} (h : a ∈ l) : a.length ≤ total l := by
  induction l with
  | nil => cases h
  | cons b t ih =>
    rw [total_cons]
    rcases List.mem_cons.1 h with rfl | h
    · omega
    · have := ih h; omega
/-- Rows measured: what is left, or -1. -/
def leftS (left : Int) : List (List Int) → Int
  | [] => left
  | a :: t => if left < (a.length : Int) then -1 else leftS (left - a.length) t
theorem leftS_ok (l : List (List Int)) : ∀ left : Int, 0 ≤ left → (leftS left l = if left < (total l : Int) then -1 else left - (total l : Int)) := by
  induction l with
  | nil => intro left h; simp [leftS, total]; omega
  | cons a t ih =>
    intro left h
    rw [leftS, total_cons]
    by_cases h1 : left < (a.length : Int)
    · rw [if_pos h1, if_pos (by omega)]
    · rw [if_neg h1, ih _ (by omega)]
      by_cases h2 : left - (a.length : Int) < (total t : Int)
      · rw [if_pos h2, if_pos (by omega)]
      · rw [if_neg h2, if_neg (by omega)]; omega
theorem szSS_loop (l : List (List Int)) (hl : l.length ≤ 1048576) (hb : ∀ a ∈ l, a.length ≤ 9223372036854775807) (d : Nat) : ∀ (i k : Nat) (left : Int), i + d = l.length → d < k → 0 ≤ left → left ≤ 1048576 →
    laws_szIntSS.l0 k l left (i : Int) = some (leftS left (l.drop i)) := by
  induction d with
  | zero =>
    intro i k left hi hk h0 h1
    obtain ⟨k, rfl⟩ : ∃ m, k = m + 1 := ⟨k - 1, by omega⟩
    simp only [laws_szIntSS.l0]
    rewrite [if_neg (by omega), List.drop_eq_nil_of_le (by omega)]; rfl
  | succ d ih =>
    intro i k left hi hk h0 h1
    obtain ⟨k, rfl⟩ : ∃ m, k = m + 1 := ⟨k - 1, by omega⟩
    have hit : i < l.length := by omega
    have e1 : wrap64 ((i : Int) + 1) = ((i + 1 : Nat) : Int) := by rw [wrap64_id _ (by omega) (by omega)]; omega
    have hd : l.drop i = l[i] :: l.drop (i + 1) := List.drop_eq_getElem_cons hit
    simp only [laws_szIntSS.l0]
    rewrite [if_pos (by omega), if_pos (by omega), rdIS_at hit, szInt_val _ left h0 h1 (hb _ (List.getElem_mem hit)), hd, leftS]
    simp only [Option.bind_some]
    by_cases h2 : left < (l[i].length : Int)
    · rewrite [if_pos h2, if_pos (by decide), if_pos h2]; rfl
    · rewrite [if_neg h2, if_neg (by omega), e1, if_neg h2]
      exact ih (i + 1) k _ (by omega) (by omega) (by omega) (by omega)
/-- Whether a list of clauses is measured as small. -/
def small (l : List (List Int)) : Prop := l.length + total l ≤ 1048576
instance (l : List (List Int)) : Decidable (small l) := by unfold small; exact inferInstance
theorem szCnf_val (n : Int) (l : List (List Int)) (hl : l.length ≤ 9223372036854775807) (hb : ∀ a ∈ l, a.length ≤ 9223372036854775807) (k : Nat) (hk : small l → l.length < k) :
    small l → laws_szCnf.f k n l 1048576 = some (1048576 - (l.length : Int) - (total l : Int)) := by
  intro hs
  have hs' : l.length + total l ≤ 1048576 := hs
  unfold laws_szCnf.f laws_szIntSS.f
  rewrite [wrap64_id _ (by omega) (by omega), if_neg (by omega)]
  have := szSS_loop l (by omega) hb l.length 0 k (1048576 - (l.length : Int)) (by omega) (hk hs) (by omega) (by omega)
  rw [Int.natCast_zero, List.drop_zero, leftS_ok _ _ (by omega), if_neg (by omega)] at this
  rewrite [this]
  simp only [Option.bind_some]
  rewrite [if_neg (by omega)]
  rfl
theorem szCnf_big (n : Int) (l : List (List Int)) (hl : l.length ≤ 9223372036854775807) (hb : ∀ a ∈ l, a.length ≤ 9223372036854775807) (h : ¬ small l) : ∃ k, ∀ q, k ≤ q → laws_szCnf.f q n l 1048576 = some (-1) := by
  have hs' : ¬ (l.length + total l ≤ 1048576) := h
  refine ⟨l.length + 1, fun q hq => ?_⟩
  unfold laws_szCnf.f laws_szIntSS.f
  rewrite [wrap64_id _ (by omega) (by omega)]
  by_cases h1 : (1048576 : Int) - (l.length : Int) < 0
  · rewrite [if_pos h1]; rfl
  · rewrite [if_neg h1]
    have := szSS_loop l (by omega) hb l.length 0 q (1048576 - (l.length : Int)) (by omega) (by omega) (by omega) (by omega)
    rw [Int.natCast_zero, List.drop_zero, leftS_ok _ _ (by omega), if_pos (by omega)] at this
    rewrite [this]; rfl
theorem toSS_loop (l : List (List Int)) (hl : l.length ≤ 1048576) (ht : total l ≤ 1048576) (d : Nat) : ∀ (i k : Nat), i + d = l.length → d + total l < k →
    laws_toIntSS.l0 k l (l.take i ++ List.replicate d []) (i : Int) = some l := by
  induction d with
  | zero =>
    intro i k hi hk
    obtain ⟨k, rfl⟩ : ∃ m, k = m + 1 := ⟨k - 1, by omega⟩
    simp only [laws_toIntSS.l0]
    rewrite [if_neg (by omega), List.take_of_length_le (by omega)]; simp
  | succ d ih =>
    intro i k hi hk
    obtain ⟨k, rfl⟩ : ∃ m, k = m + 1 := ⟨k - 1, by omega⟩
    have hit : i < l.length := by omega
    have e1 : wrap64 ((i : Int) + 1) = ((i + 1 : Nat) : Int) := by rw [wrap64_id _ (by omega) (by omega)]; omega
    have hm := total_mem (List.getElem_mem hit)
    simp only [laws_toIntSS.l0]
    rewrite [if_pos (by omega), if_pos (by omega), rdIS_at hit, toInt_val k _ (by omega) (by omega)]
    simp only [Option.bind_some]
    rewrite [if_pos (by simp; omega), e1, Int.toNat_natCast, List.replicate_succ, set_mid _ _ _ _ _ (by simp; omega)]
    have h2 : l.take i ++ l[i] :: List.replicate d [] = l.take (i + 1) ++ List.replicate d [] := by
      rw [List.take_add_one, List.getElem?_eq_getElem hit, Option.toList_some, List.append_assoc]; rfl
    rewrite [h2]
    exact ih (i + 1) k (by omega) (by omega)
theorem toCnf_val (k : Nat) (n : Int) (l : List (List Int)) (h : small l) (hk : l.length + total l < k) : laws_toCnf.f k n l = some (n, l) := by
  have hs' : l.length + total l ≤ 1048576 := h
  unfold laws_toCnf.f laws_toIntSS.f
  rewrite [if_pos (by omega), Int.toNat_natCast, if_pos (by omega)]
  have := toSS_loop l (by omega) (by omega) l.length 0 k (by omega) (by omega)
  rw [List.take_zero, List.nil_append, Int.natCast_zero] at this
  rewrite [this]
  rfl
theorem eqSS_loop (l : List (List Int)) (hl : l.length ≤ 1048576) (ht : total l ≤ 1048576) (d : Nat) : ∀ (i k : Nat), i + d = l.length → d + total l < k → laws_eqIntSS.l0 k l l (i : Int) = some true := by
  induction d with
  | zero =>
    intro i k hi hk
    obtain ⟨k, rfl⟩ : ∃ m, k = m + 1 := ⟨k - 1, by omega⟩
    simp only [laws_eqIntSS.l0]
    rewrite [if_neg (by omega)]; rfl
  | succ d ih =>
    intro i k hi hk
    obtain ⟨k, rfl⟩ : ∃ m, k = m + 1 := ⟨k - 1, by omega⟩
    have hit : i < l.length := by omega
    have e1 : wrap64 ((i : Int) + 1) = ((i + 1 : Nat) : Int) := by rw [wrap64_id _ (by omega) (by omega)]; omega
    have hm := total_mem (List.getElem_mem hit)
    simp only [laws_eqIntSS.l0]
    rewrite [if_pos (by omega), if_pos (by omega), if_pos (by omega), rdIS_at hit, eqInt_val k _ (by omega) (by omega)]
    simp only [Option.bind_some]
    rewrite [if_pos trivial, e1]
    exact ih (i + 1) k (by omega) (by omega)
theorem eqCnf_val (k : Nat) (n : Int) (l : List (List Int)) (h : small l) (hk : l.length + total l < k) : laws_eqCnf.f k n l n l = some true := by
  have hs' : l.length + total l ≤ 1048576 := h
  unfold laws_eqCnf.f laws_eqIntSS.f
  rewrite [if_pos rfl, if_pos rfl]
  have := eqSS_loop l (by omega) (by omega) l.length 0 k (by omega) (by omega)
  rw [Int.natCast_zero] at this
  rewrite [this]
  rfl
/-- A literal of so many names. -/
def litB (n x : Int) : Bool := decide (x ≠ 0 ∧ -n ≤ x ∧ x ≤ n)
def clauseB (n : Int) (l : List Int) : Bool := decide (l.length ≤ 8) && l.all (litB n)
/-- A good set of clauses. -/
def cnfB (n : Int) (l : List (List Int)) : Bool := decide (0 ≤ n ∧ n ≤ 400 ∧ l.length ≤ 1400) && l.all (clauseB n)
theorem isLiteral_val (x n : Int) (h0 : 0 ≤ n) (h1 : n ≤ 400) : impl_isLiteral.f x n = some (litB n x) := by
  unfold impl_isLiteral.f litB
  rewrite [wrap64_id _ (by omega) (by omega)]
  by_cases h : x = 0
  · rewrite [if_pos h, decide_eq_false (by omega)]; rfl
  · rewrite [if_neg h]
    by_cases h2 : x ≥ -n
    · rewrite [if_pos h2]; congr 1; exact decide_eq_decide.mpr (by omega)
    · rewrite [if_neg h2, decide_eq_false (by omega)]; rfl
theorem clauseAny_val (n : Int) (h0 : 0 ≤ n) (h1 : n ≤ 400) (l : List Int) : impl_isClause_any.f l n = some (!(l.all (litB n))) := by
  unfold impl_isClause_any.f
  induction l with
  | nil => rfl
  | cons x t ih =>
    have hp : impl_isClause_any.p n x = some (!(litB n x)) := by unfold impl_isClause_any.p; rw [isLiteral_val x n h0 h1]; rfl
    unfold impl_isClause_any.any
    rewrite [hp]
    simp only [Option.bind_some]
    rewrite [List.all_cons]
    cases hb : litB n x with
    | false => rfl
    | true => rewrite [if_neg (by decide), ih]; rfl
theorem isClause_val (n : Int) (h0 : 0 ≤ n) (h1 : n ≤ 400) (l : List Int) : impl_isClause.f l n = some (clauseB n l) := by
  unfold impl_isClause.f clauseB
  by_cases h : (l.length : Int) ≤ 8
  · rewrite [if_pos h, clauseAny_val n h0 h1, decide_eq_true (show l.length ≤ 8 by omega)]
    simp only [Option.bind_some, Bool.not_not, Bool.true_and]
  · rewrite [if_neg h, decide_eq_false (show ¬ l.length ≤ 8 by omega)]; rfl
theorem implCnf_val (n : Int) (l : List (List Int)) : impl_GoodCnf.f n l = some (cnfB n l) := by
  unfold impl_GoodCnf.f cnfB
  by_cases h0 : n < 0
  · rewrite [if_pos h0, decide_eq_false (by omega)]; rfl
  · rewrite [if_neg h0]
    by_cases h1 : n > 400
    · rewrite [if_pos h1, decide_eq_false (by omega)]; rfl
    · rewrite [if_neg h1]
      by_cases h2 : (l.length : Int) > 1400
      · rewrite [if_pos h2, decide_eq_false (by omega)]; rfl
      · rewrite [if_neg h2, decide_eq_true (by omega)]
        have hany : impl_GoodCnf_any.f l n = some (!(l.all (clauseB n))) := by
          unfold impl_GoodCnf_any.f
          clear h2
          induction l with
          | nil => rfl
          | cons x t ih =>
            have hp : impl_GoodCnf_any.p n x = some (!(clauseB n x)) := by unfold impl_GoodCnf_any.p; rw [isClause_val n (by omega) (by omega) x]; rfl
            unfold impl_GoodCnf_any.any
            rewrite [hp]
            simp only [Option.bind_some]
            rewrite [List.all_cons]
            cases hb : clauseB n x with
            | false => rfl
            | true => rewrite [if_neg (by decide), ih]; rfl
        rewrite [hany]
        simp only [Option.bind_some, Bool.not_not, Bool.true_and]
theorem l1In_lit (x n : Int) (h0 : 0 ≤ n) (h1 : n ≤ 400) : spec_l1In.f x (wrap64 (-n)) n = some (decide (-n ≤ x ∧ x ≤ n)) := by
  unfold spec_l1In.f
  rewrite [wrap64_id _ (by omega) (by omega)]
  by_cases h : x ≥ -n
  · rewrite [if_pos h]; congr 1; exact decide_eq_decide.mpr (by omega)
  · rewrite [if_neg h, decide_eq_false (by omega)]; rfl
theorem specClause_loop (n : Int) (h0 : 0 ≤ n) (h1 : n ≤ 400) (l : List Int) (hl : l.length ≤ 8) (d : Nat) : ∀ (i k : Nat), i + d = l.length → d < k → spec_l6Clause.l0 k n l (l.length : Int) (i : Int) = some ((l.drop i).all (litB n)) := by
  induction d with
  | zero =>
    intro i k hi hk
    obtain ⟨k, rfl⟩ : ∃ m, k = m + 1 := ⟨k - 1, by omega⟩
    simp only [spec_l6Clause.l0]
    rewrite [if_neg (by omega), List.drop_eq_nil_of_le (by omega)]; rfl
  | succ d ih =>
    intro i k hi hk
    obtain ⟨k, rfl⟩ : ∃ m, k = m + 1 := ⟨k - 1, by omega⟩
    have hit : i < l.length := by omega
    have e1 : wrap64 ((i : Int) + 1) = ((i + 1 : Nat) : Int) := by rw [wrap64_id _ (by omega) (by omega)]; omega
    have hd : l.drop i = l[i] :: l.drop (i + 1) := List.drop_eq_getElem_cons hit
    simp only [spec_l6Clause.l0]
    rewrite [if_pos (by omega), if_pos (by omega), if_pos (by omega), rdInt_at hit, hd, List.all_cons]
    by_cases h2 : l[i] = 0
    · have e : litB n l[i] = false := decide_eq_false (by omega)
      rewrite [if_pos h2, e]; rfl
    · rewrite [if_neg h2, l1In_lit _ n h0 h1]
      simp only [Option.bind_some, decide_eq_true_eq]
      by_cases h3 : -n ≤ l[i] ∧ l[i] ≤ n
      · have e : litB n l[i] = true := decide_eq_true ⟨h2, h3.1, h3.2⟩
        rewrite [if_pos h3, e1, ih (i + 1) k (by omega) (by omega), e]; rfl
      · have e : litB n l[i] = false := decide_eq_false (by omega)
        rewrite [if_neg h3, e]; rfl
theorem specClause_val (n : Int) (h0 : 0 ≤ n) (h1 : n ≤ 400) (l : List Int) (k : Nat) (hk : 10 < k) : spec_l6Clause.f k n l = some (clauseB n l) := by
  unfold spec_l6Clause.f clauseB
  by_cases h : (l.length : Int) > 8
  · rewrite [if_pos h, decide_eq_false (show ¬ l.length ≤ 8 by omega)]; rfl
  · have := specClause_loop n h0 h1 l (by omega) l.length 0 k (by omega) (by omega)
    rw [Int.natCast_zero, List.drop_zero] at this
    rewrite [if_neg h, decide_eq_true (show l.length ≤ 8 by omega), this]; rfl
theorem specCnf_loop (n : Int) (h0 : 0 ≤ n) (h1 : n ≤ 400) (l : List (List Int)) (hl : l.length ≤ 1400) (d : Nat) : ∀ (i k : Nat), i + d = l.length → d + 20 < k → spec_GoodCnf.l0 k l (l.length : Int) (i : Int) n l = some ((l.drop i).all (clauseB n)) := by
  induction d with
  | zero =>
    intro i k hi hk
    obtain ⟨k, rfl⟩ : ∃ m, k = m + 1 := ⟨k - 1, by omega⟩
    simp only [spec_GoodCnf.l0]
    rewrite [if_neg (by omega), List.drop_eq_nil_of_le (by omega)]; rfl
  | succ d ih =>
    intro i k hi hk
    obtain ⟨k, rfl⟩ : ∃ m, k = m + 1 := ⟨k - 1, by omega⟩
    have hit : i < l.length := by omega
    have e1 : wrap64 ((i : Int) + 1) = ((i + 1 : Nat) : Int) := by rw [wrap64_id _ (by omega) (by omega)]; omega
    have hd : l.drop i = l[i] :: l.drop (i + 1) := List.drop_eq_getElem_cons hit
    simp only [spec_GoodCnf.l0]
    rewrite [if_pos (by omega), if_pos (by omega), if_pos (by omega), rdIS_at hit, specClause_val n h0 h1 _ k (by omega), hd, List.all_cons]
    simp only [Option.bind_some]
    cases hb : clauseB n l[i] with
    | false => rewrite [if_neg (by decide)]; rfl
    | true => rewrite [if_pos rfl, e1, ih (i + 1) k (by omega) (by omega)]; rfl
theorem specCnf_val (n : Int) (l : List (List Int)) (k : Nat) (hk : 1500 < k) : spec_GoodCnf.f k n l = some (cnfB n l) := by
  obtain ⟨k, rfl⟩ : ∃ m, k = m + 1 := ⟨k - 1, by omega⟩
  unfold spec_GoodCnf.f spec_l1In.f cnfB
  by_cases h0 : n ≥ 0
  · rewrite [if_pos h0]
    simp only [Option.bind_some, decide_eq_true_eq]
    by_cases h1 : n ≤ 400
    · rewrite [if_pos h1]
      simp only [spec_GoodCnf.j0, decide_eq_true_eq]
      by_cases h2 : (l.length : Int) > 1400
      · rewrite [if_pos h2, decide_eq_false (show ¬ (0 ≤ n ∧ n ≤ 400 ∧ l.length ≤ 1400) by omega)]; rfl
      · have := specCnf_loop n h0 h1 l (by omega) l.length 0 k (by omega) (by omega)
        rw [Int.natCast_zero, List.drop_zero] at this
        rewrite [if_neg h2, decide_eq_true (show 0 ≤ n ∧ n ≤ 400 ∧ l.length ≤ 1400 by omega), this]; rfl
    · rewrite [if_neg h1, decide_eq_false (show ¬ (0 ≤ n ∧ n ≤ 400 ∧ l.length ≤ 1400) by omega)]
      simp only [spec_GoodCnf.j0]; rfl
  · rewrite [if_neg h0, decide_eq_false (show ¬ (0 ≤ n ∧ n ≤ 400 ∧ l.length ≤ 1400) by omega)]
    simp only [Option.bind_some, spec_GoodCnf.j0]; rfl
end Go.Proofs.Ytdmngodinbelfaa.Pure

namespace Go.Proofs.Ytdmngodinbelfaa.Pure
open Go.RowKit Go.Proofs.Ytdmngodinbelfaa.X Go.Proofs.YtdmngodinbelfaaW.PrintWords Go.Proofs.YtdmngodinbelfaaW.PrintLast Go.Proofs.YtdmngodinbelfaaW.PrintMore Go.Proofs.Ytdmngodinbelfaa.Bits
/-- In every set that holds the given literals and what a clause forces. -/
def Der (C : List (List Int)) (G : List Int) (x : Int) : Prop :=
  ∀ S : Int → Prop, (∀ g ∈ G, S g) → (∀ c ∈ C, ∀ y ∈ c, (∀ m ∈ c, m ≠ y → S (-m)) → S y) → S x
theorem Der.giv {C : List (List Int)} {G : List Int} {x : Int} (h : x ∈ G) : Der C G x := fun _ hg _ => hg x h
theorem Der.unit {C : List (List Int)} {G : List Int} {x : Int} {c : List Int} (hc : c ∈ C) (hx : x ∈ c) (h : ∀ m ∈ c, m ≠ x → Der C G (-m)) : Der C G x :=
  fun S hg hs => hs c hc x hx fun m hm hne => h m hm hne S hg hs
def Conf (C : List (List Int)) (G : List Int) : Prop := ∃ c ∈ C, ∀ m ∈ c, Der C G (-m)
/-- A literal is true, a name has no value. -/
def tr (v : List Int) (x : Int) : Prop := x ≠ 0 ∧ v.getD x.natAbs 0 = foS x
def un (v : List Int) (x : Int) : Prop := v.getD x.natAbs 0 = 0
structure Vec (n : Nat) (v : List Int) : Prop where
  len : v.length = n + 1
  at0 : v.getD 0 0 = 0
  sgn : ∀ i, v.getD i 0 = 0 ∨ v.getD i 0 = 1 ∨ v.getD i 0 = -1
theorem foS_neg (x : Int) : foS (-x) = - foS x := by unfold foS; split <;> split <;> (try split) <;> (try split) <;> omega
theorem foS_two {x : Int} (h : x ≠ 0) : foS x = 1 ∨ foS x = -1 := by unfold foS; split <;> (try split) <;> omega
theorem tr_neg {v : List Int} {x : Int} (h : tr v x) (h2 : tr v (-x)) : False := by
  have e := h2.2
  rw [Int.natAbs_neg, h.2, foS_neg] at e
  have := foS_two h.1
  omega
theorem tr_un {v : List Int} {x : Int} (h : tr v x) (h2 : un v x) : False := by
  have e := h.2
  unfold un at h2
  have := foS_two h.1
  omega
theorem un_neg {v : List Int} {x : Int} : un v (-x) ↔ un v x := by unfold un; rw [Int.natAbs_neg]
theorem tri {n : Nat} {v : List Int} (h : Vec n v) {x : Int} (hx : x ≠ 0) : tr v x ∨ tr v (-x) ∨ un v x := by
  unfold tr un
  rw [Int.natAbs_neg, foS_neg]
  have := h.sgn x.natAbs
  have := foS_two hx
  have : -x ≠ 0 := by omega
  by_cases h0 : v.getD x.natAbs 0 = 0
  · exact .inr (.inr h0)
  · by_cases h1 : v.getD x.natAbs 0 = foS x
    · exact .inl ⟨hx, h1⟩
    · exact .inr (.inl ⟨this, by omega⟩)
theorem getD_set_ (v : List Int) (i j : Nat) (a : Int) (hi : i < v.length) : (v.set i a).getD j 0 = if i = j then a else v.getD j 0 := by
  rw [List.getD_eq_getElem?_getD, List.getElem?_set, List.getD_eq_getElem?_getD]
  by_cases h : i = j
  · rw [if_pos h, if_pos h, if_pos (by omega)]; rfl
  · rw [if_neg h, if_neg h]
def setL (v : List Int) (x : Int) : List Int := v.set x.natAbs (foS x)
theorem tr_set {n : Nat} {v : List Int} (hv : Vec n v) {x : Int} (hx : x ≠ 0) (hn : x.natAbs ≤ n) (hu : un v x) (y : Int) : tr (setL v x) y ↔ tr v y ∨ y = x := by
  unfold tr setL
  rw [getD_set_ _ _ _ _ (by rw [hv.len]; omega)]
  unfold un at hu
  have h2 := foS_two hx
  constructor
  · rintro ⟨h0, h⟩
    by_cases e : x.natAbs = y.natAbs
    · rw [if_pos e] at h
      rcases Int.natAbs_eq_natAbs_iff.1 e with e | e
      · exact .inr e.symm
      · exfalso
        rw [e, foS_neg] at h
        have := foS_two h0
        omega
    · rw [if_neg e] at h
      exact .inl ⟨h0, h⟩
  · rintro (⟨h0, h⟩ | rfl)
    · refine ⟨h0, ?_⟩
      by_cases e : x.natAbs = y.natAbs
      · exfalso
        rw [← e, hu] at h
        have := foS_two h0
        omega
      · rw [if_neg e]; exact h
    · exact ⟨hx, if_pos rfl⟩
theorem un_set {n : Nat} {v : List Int} (hv : Vec n v) {x : Int} (hn : x.natAbs ≤ n) {y : Int} (h : un v y) (hy : y.natAbs ≠ x.natAbs) : un (setL v x) y := by
  unfold un setL
  rw [getD_set_ _ _ _ _ (by rw [hv.len]; omega), if_neg (Ne.symm hy)]
  exact h
theorem vec_set {n : Nat} {v : List Int} (hv : Vec n v) {x : Int} (hx : x ≠ 0) (hn : x.natAbs ≤ n) : Vec n (setL v x) := by
  refine ⟨by unfold setL; rw [List.length_set, hv.len], ?_, fun i => ?_⟩
  · unfold setL
    rw [getD_set_ _ _ _ _ (by rw [hv.len]; omega), if_neg (by omega)]
    exact hv.at0
  · unfold setL
    rw [getD_set_ _ _ _ _ (by rw [hv.len]; omega)]
    split
    · have := foS_two hx; omega
    · exact hv.sgn i
theorem cz_setL {n : Nat} {v : List Int} (hv : Vec n v) {x : Int} (hx : x ≠ 0) (hn : x.natAbs ≤ n) (hu : un v x) : cz (setL v x) + 1 = cz v := by
  have hl : x.natAbs < v.length := by rw [hv.len]; omega
  refine cz_set v x.natAbs (foS x) hl ?_ (foS_ne hx)
  unfold un at hu
  rw [List.getD_eq_getElem?_getD, List.getElem?_eq_getElem hl] at hu
  exact hu
/-- A clause that forces nothing and is not false. -/
def okc (v : List Int) (c : List Int) : Prop := (∃ m ∈ c, tr v m) ∨ ∃ m1 ∈ c, ∃ m2 ∈ c, m1 ≠ m2 ∧ un v m1 ∧ un v m2
def Nam (n : Nat) (C : List (List Int)) : Prop := ∀ c ∈ C, ∀ m ∈ c, m ≠ 0 ∧ m.natAbs ≤ n
structure St (n : Nat) (C : List (List Int)) (G : List Int) (v o : List Int) (R : List Int → Prop) : Prop where
  vec : Vec n v
  snd : ∀ x, tr v x → Der C G x
  giv : ∀ g ∈ G, tr v g
  cls : ∀ c ∈ C, okc v c ∨ (∃ a ∈ o, -a ∈ c) ∨ R c
theorem St.weak {n : Nat} {C : List (List Int)} {G v o : List Int} {R R2 : List Int → Prop} (h : St n C G v o R) (hr : ∀ c ∈ C, R c → okc v c ∨ (∃ a ∈ o, -a ∈ c) ∨ R2 c) : St n C G v o R2 :=
  ⟨h.vec, h.snd, h.giv, fun c hc => by
    rcases h.cls c hc with e | e | e
    · exact .inl e
    · exact .inr (.inl e)
    · exact hr c hc e⟩
theorem St.set {n : Nat} {C : List (List Int)} {G v o c0 : List Int} {R : List Int → Prop} {x : Int} (hC : Nam n C) (h : St n C G v o (fun c => c = c0 ∨ R c)) (hc0 : c0 ∈ C) (hx : x ∈ c0) (hu : un v x)
    (hall : ∀ m ∈ c0, m ≠ x → tr v (-m)) : St n C G (setL v x) (o ++ [x]) R := by
  obtain ⟨hx0, hxn⟩ := hC c0 hc0 x hx
  have ht := tr_set h.vec hx0 hxn hu
  refine ⟨vec_set h.vec hx0 hxn, fun y hy => ?_, fun g hg => (ht g).2 (.inl (h.giv g hg)), fun c hc => ?_⟩
  · rcases (ht y).1 hy with e | e
    · exact h.snd y e
    · rw [e]; exact Der.unit hc0 hx fun m hm hne => h.snd _ (hall m hm hne)
  · rcases h.cls c hc with e | ⟨a, ha, e⟩ | e | e
    · rcases e with ⟨m, hm, e⟩ | ⟨m1, h1, m2, h2, hne, u1, u2⟩
      · exact .inl (.inl ⟨m, hm, (ht m).2 (.inl e)⟩)
      · by_cases e1 : m1.natAbs = x.natAbs
        · rcases Int.natAbs_eq_natAbs_iff.1 e1 with e1 | e1
          · exact .inl (.inl ⟨m1, h1, (ht m1).2 (.inr e1)⟩)
          · exact .inr (.inl ⟨x, by simp, by rw [← e1]; exact h1⟩)
        · by_cases e2 : m2.natAbs = x.natAbs
          · rcases Int.natAbs_eq_natAbs_iff.1 e2 with e2 | e2
            · exact .inl (.inl ⟨m2, h2, (ht m2).2 (.inr e2)⟩)
            · exact .inr (.inl ⟨x, by simp, by rw [← e2]; exact h2⟩)
          · exact .inl (.inr ⟨m1, h1, m2, h2, hne, un_set h.vec hxn u1 e1, un_set h.vec hxn u2 e2⟩)
    · exact .inr (.inl ⟨a, List.mem_append_left _ ha, e⟩)
    · subst e; exact .inl (.inl ⟨x, hx, (ht x).2 (.inr rfl)⟩)
    · exact .inr (.inr e)
theorem St.conf {n : Nat} {C : List (List Int)} {G v o c0 : List Int} {R : List Int → Prop} (h : St n C G v o R) (hc0 : c0 ∈ C) (hall : ∀ m ∈ c0, tr v (-m)) : Conf C G :=
  ⟨c0, hc0, fun m hm => h.snd _ (hall m hm)⟩
/-- What a run comes to: a conflict, or a vector under which no clause forces anything. -/
def Res (n : Nat) (C : List (List Int)) (G : List Int) : Option (List Int) → Prop
  | none => Conf C G
  | some v => St n C G v [] (fun _ => False)
theorem St.ok {n : Nat} {C : List (List Int)} {G v : List Int} (h : St n C G v [] (fun _ => False)) {c : List Int} (hc : c ∈ C) : okc v c := by
  rcases h.cls c hc with e | ⟨a, ha, _⟩ | e
  · exact e
  · cases ha
  · exact e.elim
theorem okc_unit {v c : List Int} (h : okc v c) {x : Int} (h2 : ∀ m ∈ c, m ≠ x → tr v (-m)) : tr v x := by
  rcases h with ⟨m, hm, e⟩ | ⟨m1, h1, m2, h3, hne, u1, u2⟩
  · by_cases ex : m = x
    · rw [← ex]; exact e
    · exact (tr_neg e (h2 m hm ex)).elim
  · by_cases ex : m1 = x
    · exact (tr_un (h2 m2 h3 (fun e => hne (by rw [ex, e]))) (un_neg.2 u2)).elim
    · exact (tr_un (h2 m1 h1 ex) (un_neg.2 u1)).elim
theorem St.der {n : Nat} {C : List (List Int)} {G v : List Int} (h : St n C G v [] (fun _ => False)) (x : Int) : tr v x ↔ Der C G x :=
  ⟨h.snd x, fun hd => hd (tr v) h.giv fun _ hc _ _ hs => okc_unit (h.ok hc) hs⟩
theorem St.noconf {n : Nat} {C : List (List Int)} {G v : List Int} (h : St n C G v [] (fun _ => False)) : ¬ Conf C G := by
  rintro ⟨c, hc, hall⟩
  have h2 : ∀ m ∈ c, tr v (-m) := fun m hm => (h.der _).2 (hall m hm)
  rcases h.ok hc with ⟨m, hm, e⟩ | ⟨m1, h1, m2, h3, hne, u1, u2⟩
  · exact tr_neg e (h2 m hm)
  · exact tr_un (h2 m1 h1) (un_neg.2 u1)
theorem Res.same {n : Nat} {C : List (List Int)} {G : List Int} : ∀ {r s : Option (List Int)}, Res n C G r → Res n C G s → r = s
  | none, none, _, _ => rfl
  | none, some v, h, h2 => absurd h (St.noconf h2)
  | some v, none, h, h2 => absurd h2 (St.noconf h)
  | some v, some u, h, h2 => by
    have h : St n C G v [] (fun _ => False) := h
    have h2 : St n C G u [] (fun _ => False) := h2
    congr 1
    have hg : ∀ i, v.getD i 0 = u.getD i 0 := fun i => by
      cases i with
      | zero => rw [h.vec.at0, h2.vec.at0]
      | succ i =>
        have a1 := h.vec.sgn (i + 1)
        have a2 := h2.vec.sgn (i + 1)
        have key : ∀ x : Int, x.natAbs = i + 1 → (v.getD (i + 1) 0 = foS x ↔ u.getD (i + 1) 0 = foS x) := fun x hx => by
          have := (h.der x).trans (h2.der x).symm
          unfold tr at this
          rw [hx] at this
          have h0 : x ≠ 0 := by omega
          exact ⟨fun e => (this.1 ⟨h0, e⟩).2, fun e => (this.2 ⟨h0, e⟩).2⟩
        have k1 := key ((i + 1 : Nat) : Int) (by omega)
        have k2 := key (-((i + 1 : Nat) : Int)) (by omega)
        have f1 : foS ((i + 1 : Nat) : Int) = 1 := by unfold foS; rw [if_neg (by omega), if_pos (by omega)]
        rw [foS_neg, f1] at k2
        rw [f1] at k1
        omega
    apply List.ext_getElem (by rw [h.vec.len, h2.vec.len])
    intro i h3 h4
    have := hg i
    rwa [List.getD_eq_getElem?_getD, List.getD_eq_getElem?_getD, List.getElem?_eq_getElem h3, List.getElem?_eq_getElem h4] at this
end Go.Proofs.Ytdmngodinbelfaa.Pure

namespace Go.Proofs.Ytdmngodinbelfaa.Pure
open Go.RowKit Go.Proofs.Ytdmngodinbelfaa.X Go.Proofs.YtdmngodinbelfaaW.PrintWords Go.Proofs.YtdmngodinbelfaaW.PrintLast Go.Proofs.YtdmngodinbelfaaW.PrintMore Go.Proofs.Ytdmngodinbelfaa.Bits
theorem foN_abs {n : Nat} (hn : n ≤ 400) {x : Int} (hx : x.natAbs ≤ n) : foN x = (x.natAbs : Int) := by
  unfold foN mx
  rw [wrap64_id _ (by omega) (by omega)]
  split <;> omega
theorem rd_abs (v : List Int) (x : Int) : rd v (x.natAbs : Int) = v.getD x.natAbs 0 := by unfold rd; rw [Int.toNat_natCast]
theorem foT_is {n : Nat} (hn : n ≤ 400) {v : List Int} (hv : Vec n v) {x : Int} (hx : x ≠ 0 ∧ x.natAbs ≤ n) : (foT v x = true ↔ tr v x) ∧ (foF v x = true ↔ tr v (-x)) := by
  unfold foT foF tr
  rw [foN_abs hn hx.2, rd_abs, Int.natAbs_neg, foS_neg]
  have h3 := hv.sgn x.natAbs
  have hx1 : -x ≠ 0 := by omega
  have key : ∀ s : Int, s = 0 ∨ s = 1 ∨ s = -1 → ((decide (0 < wrap64 (s * x)) = true ↔ x ≠ 0 ∧ s = foS x) ∧ (decide (wrap64 (s * x) < 0) = true ↔ -x ≠ 0 ∧ s = -foS x)) := fun s hs => by
    rw [decide_eq_true_iff, decide_eq_true_iff]
    have h0 := hx.1
    have h2 := hx.2
    have hf : foS x = if x < 0 then -1 else if x > 0 then 1 else 0 := rfl
    rcases hs with rfl | rfl | rfl
    · rw [Int.zero_mul, wrap64_id _ (by omega) (by omega)]; rw [hf]; split <;> omega
    · rw [Int.one_mul, wrap64_id _ (by omega) (by omega)]; rw [hf]; split <;> omega
    · rw [show (-1 : Int) * x = -x by omega, wrap64_id _ (by omega) (by omega)]; rw [hf]; split <;> omega
  exact key _ h3
theorem look_is {n : Nat} (hn : n ≤ 400) {v : List Int} (hv : Vec n v) : ∀ (c : List Int) (left : Int), (∀ m ∈ c, m ≠ 0 ∧ m.natAbs ≤ n) → (left = 0 ∨ left ≠ 0 ∧ un v left) →
    ((foLook v c left).2 = true ∧ left = 0 ∧ ∀ m ∈ c, tr v (-m)) ∨
    ((foLook v c left).2 = false ∧ (foLook v c left).1 ≠ 0 ∧ un v (foLook v c left).1 ∧ (left ≠ 0 ∧ (foLook v c left).1 = left ∨ left = 0 ∧ (foLook v c left).1 ∈ c) ∧ ∀ m ∈ c, m ≠ (foLook v c left).1 → tr v (-m)) ∨
    ((foLook v c left).2 = false ∧ (foLook v c left).1 = 0 ∧ ((∃ m ∈ c, tr v m) ∨ (∃ m1, (left ≠ 0 ∧ m1 = left ∨ m1 ∈ c) ∧ ∃ m2 ∈ c, m1 ≠ m2 ∧ un v m1 ∧ un v m2)))
  | [], left, _, hl => by
    rw [foLook]
    rcases hl with rfl | ⟨h0, hu⟩
    · exact .inl ⟨show decide ((0 : Int) = 0) = true by decide, rfl, fun m hm => by cases hm⟩
    · exact .inr (.inl ⟨decide_eq_false h0, h0, hu, .inl ⟨h0, rfl⟩, fun m hm => by cases hm⟩)
  | x :: c, left, hc, hl => by
    have hx := hc x List.mem_cons_self
    have hc2 : ∀ m ∈ c, m ≠ 0 ∧ m.natAbs ≤ n := fun m hm => hc m (List.mem_cons_of_mem _ hm)
    obtain ⟨hT, hF⟩ := foT_is hn hv hx
    rw [foLook]
    by_cases h1 : foT v x = true
    · rw [if_pos h1]
      exact .inr (.inr ⟨rfl, rfl, .inl ⟨x, List.mem_cons_self, hT.1 h1⟩⟩)
    · rw [if_neg h1]
      by_cases h2 : foF v x = true ∨ x = left
      · rw [if_pos h2]
        rcases look_is hn hv c left hc2 hl with ⟨a1, a2, a3⟩ | ⟨a1, a2, a3, a4, a5⟩ | ⟨a1, a2, a3⟩
        · refine .inl ⟨a1, a2, fun m hm => ?_⟩
          rcases List.mem_cons.1 hm with rfl | hm
          · rcases h2 with h2 | h2
            · exact hF.1 h2
            · exact absurd (h2.trans a2) hx.1
          · exact a3 m hm
        · refine .inr (.inl ⟨a1, a2, a3, ?_, fun m hm hne => ?_⟩)
          · rcases a4 with a4 | a4
            · exact .inl a4
            · exact .inr ⟨a4.1, List.mem_cons_of_mem _ a4.2⟩
          · rcases List.mem_cons.1 hm with rfl | hm
            · rcases h2 with h2 | h2
              · exact hF.1 h2
              · rcases a4 with a4 | a4
                · exact absurd (h2.trans a4.2.symm) hne
                · exact absurd (h2.trans a4.1) hx.1
            · exact a5 m hm hne
        · refine .inr (.inr ⟨a1, a2, ?_⟩)
          rcases a3 with ⟨m, hm, e⟩ | ⟨m1, h1, m2, hm2, e⟩
          · exact .inl ⟨m, List.mem_cons_of_mem _ hm, e⟩
          · exact .inr ⟨m1, h1.imp id (List.mem_cons_of_mem _), m2, List.mem_cons_of_mem _ hm2, e⟩
      · rw [if_neg h2]
        have hu : un v x := by
          rcases tri hv hx.1 with e | e | e
          · exact absurd (hT.2 e) h1
          · exact absurd (.inl (hF.2 e)) h2
          · exact e
        by_cases h3 : left ≠ 0
        · rw [if_pos h3]
          refine .inr (.inr ⟨rfl, rfl, .inr ⟨left, .inl ⟨h3, rfl⟩, x, List.mem_cons_self, fun e => h2 (.inr e.symm), ?_, hu⟩⟩)
          rcases hl with e | e
          · exact absurd e h3
          · exact e.2
        · rw [if_neg h3]
          have h3 : left = 0 := Classical.not_not.1 h3
          rcases look_is hn hv c x hc2 (.inr ⟨hx.1, hu⟩) with ⟨a1, a2, a3⟩ | ⟨a1, a2, a3, a4, a5⟩ | ⟨a1, a2, a3⟩
          · exact absurd a2 hx.1
          · have a4 : (foLook v c x).1 = x := by
              rcases a4 with a4 | a4
              · exact a4.2
              · exact absurd a4.1 hx.1
            refine .inr (.inl ⟨a1, a2, a3, .inr ⟨h3, by rw [a4]; exact List.mem_cons_self⟩, fun m hm hne => ?_⟩)
            rcases List.mem_cons.1 hm with rfl | hm
            · exact absurd a4.symm hne
            · exact a5 m hm hne
          · refine .inr (.inr ⟨a1, a2, ?_⟩)
            rcases a3 with ⟨m, hm, e⟩ | ⟨m1, h1, m2, hm2, e⟩
            · exact .inl ⟨m, List.mem_cons_of_mem _ hm, e⟩
            · refine .inr ⟨m1, .inr ?_, m2, List.mem_cons_of_mem _ hm2, e⟩
              rcases h1 with h1 | h1
              · rw [h1.2]; exact List.mem_cons_self
              · exact List.mem_cons_of_mem _ h1
theorem setV_is {n : Nat} (hn : n ≤ 400) {v : List Int} {x : Int} (hx : x.natAbs ≤ n) (hu : un v x) (q : List Int) : setV v x = setL v x ∧ setO v q x = q ++ [x] := by
  have e : rd v (foN x) = 0 := by rw [foN_abs hn hx, rd_abs]; exact hu
  unfold setV setO setL
  rw [if_pos e, if_pos e, foN_abs hn hx, Int.toNat_natCast]
  exact ⟨rfl, rfl⟩
theorem step_look {n : Nat} (hn : n ≤ 400) {C : List (List Int)} {G v o c0 : List Int} {R : List Int → Prop} (hC : Nam n C) (h : St n C G v o (fun c => c = c0 ∨ R c)) (hc0 : c0 ∈ C) :
    ((foLook v c0 0).2 = true ∧ Conf C G) ∨ ((foLook v c0 0).2 = false ∧ ∃ o', (∀ q, lookO v (q ++ o) c0 = q ++ o') ∧ St n C G (lookV v c0) o' R ∧ cz (lookV v c0) + o'.length = cz v + o.length) := by
  rcases look_is hn h.vec c0 0 (hC c0 hc0) (.inl rfl) with ⟨a1, _, a3⟩ | ⟨a1, a2, a3, a4, a5⟩ | ⟨a1, a2, a3⟩
  · exact .inl ⟨a1, h.conf hc0 a3⟩
  · obtain ⟨x, hx⟩ : ∃ x, (foLook v c0 0).1 = x := ⟨_, rfl⟩
    have hm : x ∈ c0 := by
      rcases a4 with a4 | a4
      · exact absurd rfl a4.1
      · rw [← hx]; exact a4.2
    rw [hx] at a2 a3 a5
    have hl := hC c0 hc0 x hm
    refine .inr ⟨a1, o ++ [x], fun q => ?_, ?_, ?_⟩
    · unfold lookO
      rw [hx, if_neg a2, (setV_is hn hl.2 a3 _).2, List.append_assoc]
    · unfold lookV
      rw [hx, if_neg a2, (setV_is hn hl.2 a3 []).1]
      exact h.set hC hc0 hm a3 a5
    · unfold lookV
      rw [hx, if_neg a2, (setV_is hn hl.2 a3 []).1]
      have := cz_setL h.vec hl.1 hl.2 a3
      rw [List.length_append, List.length_singleton]
      omega
  · refine .inr ⟨a1, o, fun q => ?_, ?_, ?_⟩
    · unfold lookO; rw [if_pos a2]
    · unfold lookV; rw [if_pos a2]
      refine h.weak fun c _ hr => ?_
      rcases hr with rfl | hr
      · rcases a3 with a3 | ⟨m1, h1, e⟩
        · exact .inl (.inl a3)
        · rcases h1 with h1 | h1
          · exact absurd rfl h1.1
          · exact .inl (.inr ⟨m1, h1, e⟩)
      · exact .inr (.inr hr)
    · unfold lookV; rw [if_pos a2]
theorem ph1_is {n : Nat} (hn : n ≤ 400) {C : List (List Int)} {G : List Int} (hC : Nam n C) : ∀ (rest : List (List Int)) (v o : List Int), St n C G v o (fun c => c ∈ rest) → (∀ c ∈ rest, c ∈ C) →
    (ph1 rest (v, o) = none ∧ Conf C G) ∨ ∃ v' o', ph1 rest (v, o) = some (v', o') ∧ St n C G v' o' (fun _ => False) ∧ cz v' + o'.length = cz v + o.length
  | [], v, o, h, _ => .inr ⟨v, o, rfl, h.weak (fun c _ hr => by cases hr), rfl⟩
  | c :: rest, v, o, h, hr => by
    have h1 : St n C G v o (fun d => d = c ∨ d ∈ rest) := h.weak fun d _ hd => .inr (.inr (List.mem_cons.1 hd))
    rw [ph1]
    rcases step_look hn hC h1 (hr c List.mem_cons_self) with ⟨a1, a2⟩ | ⟨a1, o', a2, a3, a4⟩
    · exact .inl ⟨if_pos a1, a2⟩
    · have e : stL (v, o) c = (lookV v c, o') := by
        have := a2 []
        unfold stL
        rw [List.nil_append, List.nil_append] at this
        exact congrArg _ this
      rw [if_neg (by rw [show (v, o).1 = v from rfl, a1]; decide), e]
      rcases ph1_is hn hC rest _ _ a3 (fun d hd => hr d (List.mem_cons_of_mem _ hd)) with b | ⟨v', o2, b1, b2, b3⟩
      · exact .inl b
      · exact .inr ⟨v', o2, b1, b2, by omega⟩
theorem inn_is {n : Nat} (hn : n ≤ 400) {C : List (List Int)} {G : List Int} (hC : Nam n C) (a : Int) : ∀ (r : List Int) (v o : List Int), St n C G v o (fun c => ∃ k ∈ r, c = C.getD k.toNat []) → (∀ k ∈ r, C.getD k.toNat [] ∈ C) →
    (inn C r (v, a :: o) = none ∧ Conf C G) ∨ ∃ v' o', inn C r (v, a :: o) = some (v', a :: o') ∧ St n C G v' o' (fun _ => False) ∧ cz v' + o'.length = cz v + o.length
  | [], v, o, h, _ => .inr ⟨v, o, rfl, h.weak (fun c _ hr => by obtain ⟨k, hk, _⟩ := hr; cases hk), rfl⟩
  | j :: r, v, o, h, hr => by
    have h1 : St n C G v o (fun d => d = C.getD j.toNat [] ∨ ∃ k ∈ r, d = C.getD k.toNat []) := h.weak fun d _ hd => by
      obtain ⟨k, hk, e⟩ := hd
      rcases List.mem_cons.1 hk with rfl | hk
      · exact .inr (.inr (.inl e))
      · exact .inr (.inr (.inr ⟨k, hk, e⟩))
    rw [inn]
    rcases step_look hn hC h1 (hr j List.mem_cons_self) with ⟨a1, a2⟩ | ⟨a1, o', a2, a3, a4⟩
    · exact .inl ⟨if_pos a1, a2⟩
    · have e : stL (v, a :: o) (C.getD j.toNat []) = (lookV v (C.getD j.toNat []), a :: o') := by
        have := a2 [a]
        unfold stL
        exact congrArg _ this
      rw [if_neg (by rw [show (v, a :: o).1 = v from rfl, a1]; decide), e]
      rcases inn_is hn hC a r _ _ a3 (fun d hd => hr d (List.mem_cons_of_mem _ hd)) with b | ⟨v', o2, b1, b2, b3⟩
      · exact .inl b
      · exact .inr ⟨v', o2, b1, b2, by omega⟩
theorem prs_has (L : List (List Int)) (x : Int) (i : Nat) (hi : i < L.length) (hx : x ∈ L.getD i []) : ∀ n, i < n → (wrap64 (-x), (i : Int)) ∈ prs L n
  | 0, h => absurd h (by omega)
  | n + 1, h => by
    rw [prs]
    by_cases e : i = n
    · subst e
      exact List.mem_append_right _ (List.mem_map.2 ⟨x, hx, rfl⟩)
    · exact List.mem_append_left _ (prs_has L x i hi hx n (by omega))
theorem grp_in {C : List (List Int)} (a k : Int) (h : k ∈ grp (prs C C.length) a) : C.getD k.toNat [] ∈ C := by
  unfold grp at h
  obtain ⟨p, hp, rfl⟩ := List.mem_map.1 h
  obtain ⟨i, hi, e⟩ := prs_mem C C.length p (List.mem_filter.1 hp).1
  rw [e, Int.toNat_natCast, List.getD_eq_getElem?_getD, List.getElem?_eq_getElem hi]
  exact List.getElem_mem hi
theorem grp_all {n : Nat} (hn : n ≤ 400) {C : List (List Int)} (hC : Nam n C) {a : Int} {c : List Int} (hc : c ∈ C) (ha : -a ∈ c) : ∃ k ∈ grp (prs C C.length) a, c = C.getD k.toNat [] := by
  obtain ⟨i, hi, e⟩ := List.getElem_of_mem hc
  have e2 : C.getD i [] = c := by rw [List.getD_eq_getElem?_getD, List.getElem?_eq_getElem hi]; exact e
  have hl := hC c hc _ ha
  have hw : wrap64 (-(-a)) = a := by rw [wrap64_id _ (by omega) (by omega)]; omega
  have := prs_has C (-a) i hi (by rw [e2]; exact ha) C.length hi
  refine ⟨(i : Int), ?_, by rw [Int.toNat_natCast]; exact e2.symm⟩
  unfold grp
  exact List.mem_map.2 ⟨_, List.mem_filter.2 ⟨this, by rw [hw]; exact beq_self_eq_true a⟩, rfl⟩
def outI : Option (List Int) → List Int × Bool
  | none => ([], true)
  | some v => (v, false)
theorem ph3_is {n : Nat} (hn : n ≤ 400) {C : List (List Int)} {G : List Int} (hC : Nam n C) : ∀ (k : Nat) (v o : List Int), St n C G v o (fun _ => False) → cz v + o.length < k → ∃ r, Res n C G r ∧ ph3 C (prs C C.length) k (v, o) = some (outI r)
  | 0, _, _, _, h => absurd h (by omega)
  | k + 1, v, [], h, _ => ⟨some v, h, rfl⟩
  | k + 1, v, a :: o, h, hk => by
    have h1 : St n C G v o (fun c => ∃ j ∈ grp (prs C C.length) a, c = C.getD j.toNat []) := ⟨h.vec, h.snd, h.giv, fun c hc => by
      rcases h.cls c hc with e | ⟨b, hb, e⟩ | e
      · exact .inl e
      · rcases List.mem_cons.1 hb with rfl | hb
        · exact .inr (.inr (grp_all hn hC hc e))
        · exact .inr (.inl ⟨b, hb, e⟩)
      · exact e.elim⟩
    rw [ph3]
    rcases inn_is hn hC a _ v o h1 (fun k hk => grp_in a k hk) with ⟨e, e2⟩ | ⟨v', o', e, e2, e3⟩
    · refine ⟨none, e2, ?_⟩
      simp only [e]
      rfl
    · rw [List.length_cons] at hk
      obtain ⟨r, hr, e4⟩ := ph3_is hn hC k v' o' e2 (by omega)
      refine ⟨r, hr, ?_⟩
      simp only [e, List.drop_one, List.tail_cons]
      exact e4
/-- The given literals: names from 1 to n, each once. -/
def gB (n : Int) : List Int → List Int → Bool
  | _, [] => true
  | q, x :: t => litB n x && (!decide (x ∈ q) && (!decide (-x ∈ q) && gB n (q ++ [x]) t))
theorem lit_abs {n : Nat} {x : Int} (h : litB (n : Int) x = true) : x ≠ 0 ∧ x.natAbs ≤ n := by
  have := of_decide_eq_true h
  omega
theorem fold_is {n : Nat} (hn : n ≤ 400) : ∀ (t q v : List Int), Vec n v → (∀ y, tr v y ↔ y ∈ q) → gB (n : Int) q t = true →
    ∃ v', t.foldl stG (v, q) = (v', q ++ t) ∧ Vec n v' ∧ (∀ y, tr v' y ↔ y ∈ q ++ t) ∧ cz v' + t.length = cz v
  | [], q, v, hv, ht, _ => ⟨v, by rw [List.append_nil]; rfl, hv, by rw [List.append_nil]; exact ht, rfl⟩
  | x :: t, q, v, hv, ht, hg => by
    rw [gB, Bool.and_eq_true, Bool.and_eq_true, Bool.and_eq_true, Bool.not_eq_true', Bool.not_eq_true', decide_eq_false_iff_not, decide_eq_false_iff_not] at hg
    obtain ⟨h1, h2, h3, h4⟩ := hg
    have hl := lit_abs h1
    have hu : un v x := by
      rcases tri hv hl.1 with e | e | e
      · exact absurd ((ht x).1 e) h2
      · exact absurd ((ht (-x)).1 e) h3
      · exact e
    have hs := tr_set hv hl.1 hl.2 hu
    obtain ⟨v', e1, e2, e3, e4⟩ := fold_is hn t (q ++ [x]) (setL v x) (vec_set hv hl.1 hl.2) (fun y => by rw [hs, ht, List.mem_append, List.mem_singleton]) h4
    refine ⟨v', ?_, e2, fun y => ?_, ?_⟩
    · rw [List.foldl_cons, show stG (v, q) x = (setL v x, q ++ [x]) by unfold stG; rw [(setV_is hn hl.2 hu q).1, (setV_is hn hl.2 hu q).2], e1, List.append_assoc]; rfl
    · rw [e3, List.append_assoc]; rfl
    · have := cz_setL hv hl.1 hl.2 hu
      rw [List.length_cons]
      omega
theorem vec0 (n : Nat) : Vec n (List.replicate (n + 1) 0) ∧ (∀ y, tr (List.replicate (n + 1) 0) y ↔ y ∈ ([] : List Int)) ∧ cz (List.replicate (n + 1) 0) = n + 1 := by
  have hg : ∀ i, (List.replicate (n + 1) (0 : Int)).getD i 0 = 0 := fun i => by
    rw [List.getD_eq_getElem?_getD, List.getElem?_replicate]
    split <;> rfl
  refine ⟨⟨List.length_replicate, hg 0, fun i => .inl (hg i)⟩, fun y => ⟨fun h => ?_, fun h => by cases h⟩, ?_⟩
  · have := h.2
    rw [hg] at this
    have := foS_two h.1
    omega
  · unfold cz; rw [List.count_replicate_self]
/-- Where both sides begin. -/
theorem start_is {n : Nat} (hn : n ≤ 400) {C : List (List Int)} {G : List Int} (hg : gB (n : Int) [] G = true) : ∃ v0, G.foldl stG (List.replicate (n + 1) 0, []) = (v0, G) ∧ (∀ o R, (∀ c ∈ C, R c) → St n C G v0 o R) ∧ cz v0 + G.length = n + 1 ∧ Vec n v0 := by
  obtain ⟨a1, a2, a3⟩ := vec0 n
  obtain ⟨v0, e1, e2, e3, e4⟩ := fold_is hn G [] _ a1 a2 hg
  rw [List.nil_append] at e1 e3
  exact ⟨v0, e1, fun o R hr => ⟨e2, fun x hx => Der.giv ((e3 x).1 hx), fun g h => (e3 g).2 h, fun c hc => .inr (.inr (hr c hc))⟩, by omega, e2⟩
theorem gB_lit (n : Int) : ∀ (t q : List Int), gB n q t = true → ∀ x ∈ t, litB n x = true
  | [], _, _, x, hx => by cases hx
  | y :: t, q, h, x, hx => by
    rw [gB, Bool.and_eq_true, Bool.and_eq_true, Bool.and_eq_true] at h
    rcases List.mem_cons.1 hx with rfl | hx
    · exact h.1
    · exact gB_lit n t _ h.2.2.2 x hx
theorem clB_is {n : Int} {c : List Int} (h : clauseB n c = true) : c.length ≤ 8 ∧ ∀ x ∈ c, litB n x = true := by
  unfold clauseB at h
  rw [Bool.and_eq_true, decide_eq_true_iff, List.all_eq_true] at h
  exact h
theorem cnB_is {n : Int} {l : List (List Int)} (h : cnfB n l = true) : 0 ≤ n ∧ n ≤ 400 ∧ l.length ≤ 1400 ∧ ∀ c ∈ l, clauseB n c = true := by
  unfold cnfB at h
  rw [Bool.and_eq_true, decide_eq_true_iff, List.all_eq_true] at h
  exact ⟨h.1.1, h.1.2.1, h.1.2.2, h.2⟩
theorem nam_of {n : Nat} {C : List (List Int)} (h : cnfB (n : Int) C = true) : Nam n C := fun c hc m hm => lit_abs ((clB_is ((cnB_is h).2.2.2 c hc)).2 m hm)
/-- The program's propagation. -/
theorem cnfForced_is {n : Nat} {C : List (List Int)} {G : List Int} (h : cnfB (n : Int) C = true) (hg : gB (n : Int) [] G = true) : ∃ r, Res n C G r ∧ ∀ k, n + 1 < k → impl_Cnf_forced.f k (n : Int) C G = some (outI r) := by
  obtain ⟨b1, b2, b3, b4⟩ := cnB_is h
  have hn : n ≤ 400 := by omega
  have hC := nam_of h
  obtain ⟨v0, e1, e2, e3, e4⟩ := start_is (C := C) hn hg
  have hgood : foGood (n : Int) C G = true := by
    unfold foGood
    rw [Bool.and_eq_true, Bool.and_eq_true, decide_eq_true_iff, List.all_eq_true, List.all_eq_true]
    refine ⟨⟨b1, by omega, by omega, by omega⟩, fun x hx => gB_lit _ _ _ hg x hx, fun c hc => ?_⟩
    obtain ⟨d1, d2⟩ := clB_is (b4 c hc)
    rw [Bool.and_eq_true, decide_eq_true_iff, List.all_eq_true]
    exact ⟨by omega, fun x hx => d2 x hx⟩
  have hf : ∀ k, impl_Cnf_forced.f k (n : Int) C G = foK C k (ph1 C (v0, G)) := fun k => by
    unfold impl_Cnf_forced.f
    rw [if_pos hgood]
    unfold fo0
    rw [show ((n : Int) + 1).toNat = n + 1 by omega, e1]
  rcases ph1_is hn hC C v0 G (e2 G _ fun c hc => hc) (fun c hc => hc) with ⟨c1, c2⟩ | ⟨v', o', c1, c2, c3⟩
  · exact ⟨none, c2, fun k _ => by rw [hf, c1]; rfl⟩
  · obtain ⟨r, hr, e5⟩ := ph3_is hn hC (n + 2) v' o' c2 (by omega)
    refine ⟨r, hr, fun k hk => ?_⟩
    rw [hf, c1]
    obtain ⟨r2, hr2, e6⟩ := ph3_is hn hC k v' o' c2 (by omega)
    rw [Res.same hr hr2]
    exact e6
end Go.Proofs.Ytdmngodinbelfaa.Pure

namespace Go.Proofs.Ytdmngodinbelfaa.Pure
open Go.RowKit Go.Proofs.Ytdmngodinbelfaa.X Go.Proofs.YtdmngodinbelfaaW.PrintWords Go.Proofs.YtdmngodinbelfaaW.PrintLast Go.Proofs.YtdmngodinbelfaaW.PrintMore Go.Proofs.Ytdmngodinbelfaa.Bits
theorem sign_is {n : Nat} (hn : n ≤ 400) {v : List Int} (hv : Vec n v) {x : Int} (hx : x ≠ 0 ∧ x.natAbs ≤ n) : ∃ s, spec_l6Sign.f v x = some s ∧ ((s == 1) = true ↔ tr v x) ∧ (s = 0 ↔ un v x) := by
  have h3 := hv.sgn x.natAbs
  have hl := hv.len
  unfold spec_l6Sign.f tr un
  rw [wrap64_id _ (by omega) (by omega)]
  have hr : ∀ y : Int, y = x.natAbs → rd v y = v.getD x.natAbs 0 := fun y hy => by rw [hy, rd_abs]
  by_cases h : x < 0
  · rw [if_pos h, if_pos (by omega), if_pos (by omega), hr _ (by omega)]
    refine ⟨_, rfl, ?_⟩
    have hf : foS x = -1 := by unfold foS; rw [if_pos h]
    rw [wrap64_id _ (by omega) (by omega), hf, beq_iff_eq]
    omega
  · rw [if_neg h, if_pos (by omega), if_pos (by omega), hr _ (by omega)]
    refine ⟨_, rfl, ?_⟩
    have hf : foS x = 1 := by unfold foS; rw [if_neg h, if_pos (by omega)]
    rw [hf, beq_iff_eq]
    omega
/-- What the pass over a clause has counted. -/
def ScP (v p : List Int) (m : Bool) (l f : Int) : Prop :=
  (m = true ↔ ∃ x ∈ p, tr v x) ∧ 0 ≤ f ∧ f ≤ (p.length : Int) ∧
  ((f = 0 ∧ l = 0 ∧ ∀ x ∈ p, ¬ un v x) ∨ (f = 1 ∧ l ∈ p ∧ un v l ∧ ∀ x ∈ p, un v x → x = l) ∨ (2 ≤ f ∧ l ∈ p ∧ un v l ∧ ∃ m1 ∈ p, ∃ m2 ∈ p, m1 ≠ m2 ∧ un v m1 ∧ un v m2))
theorem ScP.step {v p : List Int} {m : Bool} {l f x s : Int} (h : ScP v p m l f) (hx : x ≠ 0) (h1 : (s == 1) = true ↔ tr v x) (h0 : s = 0 ↔ un v x) :
    ScP v (p ++ [x]) (if m = true then true else (s == 1)) (if s = 0 then (if x = l then l else x) else l) (if s = 0 then (if x = l then f else f + 1) else f) := by
  obtain ⟨a1, a2, a3, a4⟩ := h
  have hm : ((if m = true then true else (s == 1)) = true ↔ ∃ y ∈ p ++ [x], tr v y) := by
    constructor
    · intro e
      by_cases hm : m = true
      · obtain ⟨y, hy, e2⟩ := a1.1 hm
        exact ⟨y, List.mem_append_left _ hy, e2⟩
      · rw [if_neg hm] at e
        exact ⟨x, by simp, h1.1 e⟩
    · rintro ⟨y, hy, e⟩
      by_cases hm : m = true
      · rw [if_pos hm]
      · rw [if_neg hm]
        rcases List.mem_append.1 hy with hy | hy
        · exact absurd (a1.2 ⟨y, hy, e⟩) hm
        · rw [List.mem_singleton.1 hy] at e
          exact h1.2 e
  have hq : ∀ y, y ∈ p ++ [x] ↔ y ∈ p ∨ y = x := fun y => by simp
  refine ⟨hm, ?_, ?_, ?_⟩
  · split
    · split <;> omega
    · exact a2
  · rw [List.length_append, List.length_singleton]
    split
    · split <;> omega
    · omega
  · by_cases e0 : s = 0
    · have hu := h0.1 e0
      rw [if_pos e0, if_pos e0]
      by_cases el : x = l
      · rw [if_pos el, if_pos el]
        rcases a4 with ⟨b1, b2, b3⟩ | ⟨b1, b2, b3, b4⟩ | ⟨b1, b2, b3, m1, b4, m2, b5, b6⟩
        · exact absurd (el.trans b2) hx
        · refine .inr (.inl ⟨b1, (hq _).2 (.inl b2), b3, fun y hy hy2 => ?_⟩)
          rcases (hq y).1 hy with e | e
          · exact b4 y e hy2
          · exact e.trans el
        · exact .inr (.inr ⟨b1, (hq _).2 (.inl b2), b3, m1, (hq _).2 (.inl b4), m2, (hq _).2 (.inl b5), b6⟩)
      · rw [if_neg el, if_neg el]
        rcases a4 with ⟨b1, b2, b3⟩ | ⟨b1, b2, b3, b4⟩ | ⟨b1, b2, b3, m1, b4, m2, b5, b6⟩
        · refine .inr (.inl ⟨by omega, (hq _).2 (.inr rfl), hu, fun y hy hy2 => ?_⟩)
          rcases (hq y).1 hy with e | e
          · exact absurd hy2 (b3 y e)
          · exact e
        · exact .inr (.inr ⟨by omega, (hq _).2 (.inr rfl), hu, x, (hq _).2 (.inr rfl), l, (hq _).2 (.inl b2), el, hu, b3⟩)
        · exact .inr (.inr ⟨by omega, (hq _).2 (.inr rfl), hu, m1, (hq _).2 (.inl b4), m2, (hq _).2 (.inl b5), b6⟩)
    · have hu : ¬ un v x := fun e => e0 (h0.2 e)
      rw [if_neg e0, if_neg e0]
      rcases a4 with ⟨b1, b2, b3⟩ | ⟨b1, b2, b3, b4⟩ | ⟨b1, b2, b3, m1, b4, m2, b5, b6⟩
      · refine .inl ⟨b1, b2, fun y hy hy2 => ?_⟩
        rcases (hq y).1 hy with e | e
        · exact b3 y e hy2
        · exact hu (e ▸ hy2)
      · refine .inr (.inl ⟨b1, (hq _).2 (.inl b2), b3, fun y hy hy2 => ?_⟩)
        rcases (hq y).1 hy with e | e
        · exact b4 y e hy2
        · exact absurd (e ▸ hy2) hu
      · exact .inr (.inr ⟨b1, (hq _).2 (.inl b2), b3, m1, (hq _).2 (.inl b4), m2, (hq _).2 (.inl b5), b6⟩)
/-- Behind a clause. -/
def aft (n : Int) (C : List (List Int)) (ci : Int) (k : Nat) (v : List Int) (g m : Bool) (l f : Int) : Option (Bool × List Int) :=
  if m = true then spec_l6Force.l1 k v g C (C.length : Int) (wrap64 (ci + 1)) n C else if f = 0 then some (true, v) else if f = 1 then (if l < 0 then (if 0 ≤ wrap64 (-l) then (if wrap64 (-l) < (v.length : Int) then spec_l6Force.l1 k (v.set (wrap64 (-l) : Int).toNat (-1)) true C (C.length : Int) (wrap64 (ci + 1)) n C else none) else none) else (if 0 ≤ l then (if l < (v.length : Int) then spec_l6Force.l1 k (v.set (l : Int).toNat 1) true C (C.length : Int) (wrap64 (ci + 1)) n C else none) else none)) else spec_l6Force.l1 k v g C (C.length : Int) (wrap64 (ci + 1)) n C
theorem l2_is {n : Nat} (hn : n ≤ 400) (C : List (List Int)) (ci : Int) {v c : List Int} (hv : Vec n v) (hc : ∀ m ∈ c, m ≠ 0 ∧ m.natAbs ≤ n) (hcl : c.length ≤ 8) (g : Bool) (d : Nat) : ∀ (i : Nat) (m : Bool) (l f : Int), i + d = c.length → ScP v (c.take i) m l f →
    ∃ m' l' f', ScP v c m' l' f' ∧ ∀ k, spec_l6Force.l2 (k + d + 1) v g m l f C (C.length : Int) ci c (c.length : Int) (i : Int) (n : Int) C = aft (n : Int) C ci k v g m' l' f' := by
  induction d with
  | zero =>
    intro i m l f hi hs
    refine ⟨m, l, f, by rwa [List.take_of_length_le (by omega)] at hs, fun k => ?_⟩
    simp only [spec_l6Force.l2]
    rewrite [if_neg (by omega)]
    rfl
  | succ d ih =>
    intro i m l f hi hs
    have hit : i < c.length := by omega
    have e1 : wrap64 ((i : Int) + 1) = ((i + 1 : Nat) : Int) := by rw [wrap64_id _ (by omega) (by omega)]; omega
    have hx := hc _ (List.getElem_mem hit)
    obtain ⟨s, hs1, hs2, hs3⟩ := sign_is hn hv hx
    have hf : wrap64 (f + 1) = f + 1 := by
      obtain ⟨_, q1, q2, _⟩ := hs
      rw [List.length_take] at q2
      exact wrap64_id _ (by omega) (by omega)
    have hstep := hs.step hx.1 hs2 hs3
    rw [show c.take i ++ [c[i]] = c.take (i + 1) by rw [List.take_add_one, List.getElem?_eq_getElem hit, Option.toList_some]] at hstep
    obtain ⟨m', l', f', h1, h2⟩ := ih (i + 1) _ _ _ (by omega) hstep
    refine ⟨m', l', f', h1, fun k => ?_⟩
    rw [← h2 k]
    rw [show k + (d + 1) + 1 = (k + d + 1) + 1 by omega]
    rw [spec_l6Force.l2]
    rewrite [if_pos (by omega), if_pos (by omega), if_pos (by omega), rdInt_at hit, hs1, Option.bind_some, e1, hf]
    by_cases hm : m = true
    · rw [if_pos hm, if_pos hm]
      by_cases e0 : s = 0
      · rw [if_pos e0, if_pos e0, if_pos e0]
        by_cases el : c[i] = l
        · rw [if_pos el, if_pos el, if_pos el]
        · rw [if_neg el, if_neg el, if_neg el]
      · rw [if_neg e0, if_neg e0, if_neg e0]
    · rw [if_neg hm, if_neg hm]
      by_cases e0 : s = 0
      · rw [if_pos e0, if_pos e0, if_pos e0]
        by_cases el : c[i] = l
        · rw [if_pos el, if_pos el, if_pos el]
        · rw [if_neg el, if_neg el, if_neg el]
      · rw [if_neg e0, if_neg e0, if_neg e0]
theorem l1_is {n : Nat} (hn : n ≤ 400) {C : List (List Int)} {G : List Int} (hC : Nam n C) (hCl : C.length ≤ 1400) (hcl : ∀ c ∈ C, c.length ≤ 8) (d : Nat) : ∀ (i : Nat) (v o : List Int) (g : Bool), i + d = C.length → St n C G v o (fun c => c ∈ C.drop i) → (g = false → o = []) →
    ((Conf C G) ∧ ∃ s v', ∀ k, spec_l6Force.l1 (k + s) v g C (C.length : Int) (i : Int) (n : Int) C = some (true, v')) ∨
    ∃ s v' o' g', (∀ k, spec_l6Force.l1 (k + s) v g C (C.length : Int) (i : Int) (n : Int) C = spec_l6Force.l0 k v' g' (n : Int) C) ∧ St n C G v' o' (fun _ => False) ∧ (g' = false → o' = []) ∧ cz v' ≤ cz v ∧ (g' = true → g = true ∨ cz v' < cz v) := by
  induction d with
  | zero =>
    intro i v o g hi h hg
    refine .inr ⟨1, v, o, g, fun k => ?_, h.weak fun c _ hc => ?_, hg, Nat.le_refl _, fun e => .inl e⟩
    · rw [spec_l6Force.l1, if_neg (by omega)]
    · rw [List.drop_eq_nil_of_le (by omega)] at hc; cases hc
  | succ d ih =>
    intro i v o g hi h hg
    have hit : i < C.length := by omega
    have e1 : wrap64 ((i : Int) + 1) = ((i + 1 : Nat) : Int) := by rw [wrap64_id _ (by omega) (by omega)]; omega
    have hmem := List.getElem_mem hit
    have hd : C.drop i = C[i] :: C.drop (i + 1) := List.drop_eq_getElem_cons hit
    have h1 : St n C G v o (fun c => c = C[i] ∨ c ∈ C.drop (i + 1)) := h.weak fun c _ hc => by
      rw [hd] at hc
      exact .inr (.inr (List.mem_cons.1 hc))
    obtain ⟨m, l, f, ⟨a1, a2, a3, a4⟩, h2⟩ := l2_is hn C (i : Int) h.vec (hC _ hmem) (hcl _ hmem) g C[i].length 0 false 0 0 (by omega)
      ⟨⟨(fun e => by cases e), (fun ⟨x, hx, _⟩ => by cases hx)⟩, by omega, by simp, .inl ⟨rfl, rfl, (fun x hx => by cases hx)⟩⟩
    have e2 : ∀ k, spec_l6Force.l1 (k + (C[i].length + 2)) v g C (C.length : Int) (i : Int) (n : Int) C = aft (n : Int) C (i : Int) k v g m l f := fun k => by
      rw [← h2 k, show k + (C[i].length + 2) = (k + C[i].length + 1) + 1 by omega, spec_l6Force.l1, if_pos (by omega), if_pos (by omega), if_pos (by omega), rdIS_at hit]
      rfl
    have hnext : ∀ {v2 o2 : List Int} {g2 : Bool}, (∀ k, aft (n : Int) C (i : Int) k v g m l f = spec_l6Force.l1 k v2 g2 C (C.length : Int) ((i + 1 : Nat) : Int) (n : Int) C) → St n C G v2 o2 (fun c => c ∈ C.drop (i + 1)) → (g2 = false → o2 = []) → cz v2 ≤ cz v → (g2 = true → g = true ∨ cz v2 < cz v) →
        ((Conf C G) ∧ ∃ s v', ∀ k, spec_l6Force.l1 (k + s) v g C (C.length : Int) (i : Int) (n : Int) C = some (true, v')) ∨
        ∃ s v' o' g', (∀ k, spec_l6Force.l1 (k + s) v g C (C.length : Int) (i : Int) (n : Int) C = spec_l6Force.l0 k v' g' (n : Int) C) ∧ St n C G v' o' (fun _ => False) ∧ (g' = false → o' = []) ∧ cz v' ≤ cz v ∧ (g' = true → g = true ∨ cz v' < cz v) := by
      intro v2 o2 g2 q1 q2 q3 q4 q5
      rcases ih (i + 1) v2 o2 g2 (by omega) q2 q3 with ⟨r1, s, v', r2⟩ | ⟨s, v', o', g', r1, r2, r3, r4, r5⟩
      · refine .inl ⟨r1, s + (C[i].length + 2), v', fun k => ?_⟩
        rw [← Nat.add_assoc, e2, q1, r2]
      · refine .inr ⟨s + (C[i].length + 2), v', o', g', fun k => ?_, r2, r3, by omega, fun e => ?_⟩
        · rw [← Nat.add_assoc, e2, q1, r1]
        · rcases r5 e with e | e
          · rcases q5 e with e | e
            · exact .inl e
            · exact .inr (by omega)
          · exact .inr (by omega)
    by_cases hm : m = true
    · refine hnext (v2 := v) (o2 := o) (g2 := g) (fun k => by unfold aft; rw [if_pos hm, e1]) (h1.weak fun c _ hc => ?_) hg (Nat.le_refl _) (fun e => .inl e)
      rcases hc with rfl | hc
      · exact .inl (.inl (a1.1 hm))
      · exact .inr (.inr hc)
    · have hfa : ∀ x ∈ C[i], ¬ un v x → tr v (-x) := fun x hx hu => by
        rcases tri h.vec (hC _ hmem x hx).1 with e | e | e
        · exact absurd (a1.2 ⟨x, hx, e⟩) hm
        · exact e
        · exact absurd e hu
      rcases a4 with ⟨b1, b2, b3⟩ | ⟨b1, b2, b3, b4⟩ | ⟨b1, b2, b3, m1, b4, m2, b5, b6⟩
      · refine .inl ⟨h.conf hmem fun x hx => hfa x hx (b3 x hx), C[i].length + 2, v, fun k => ?_⟩
        rw [e2]
        unfold aft
        rw [if_neg hm, if_pos b1]
      · have hl := hC _ hmem l b2
        have hset := St.set hC h1 hmem b2 b3 (fun x hx hne => hfa x hx fun hu => hne (b4 x hx hu))
        have hcz := cz_setL h.vec hl.1 hl.2 b3
        have hvl := h.vec.len
        refine hnext (v2 := setL v l) (o2 := o ++ [l]) (g2 := true) (fun k => ?_) hset (fun e => by cases e) (by omega) (fun _ => .inr (by omega))
        unfold aft setL foS
        rw [if_neg hm, if_neg (by omega), if_pos b1, e1, wrap64_id _ (by omega) (by omega)]
        by_cases hl0 : l < 0
        · rw [if_pos hl0, if_pos (by omega), if_pos (by omega), if_pos hl0, show (-l).toNat = l.natAbs by omega]
        · rw [if_neg hl0, if_pos (by omega), if_pos (by omega), if_neg hl0, if_pos (by omega), show l.toNat = l.natAbs by omega]
      · refine hnext (v2 := v) (o2 := o) (g2 := g) (fun k => by unfold aft; rw [if_neg hm, if_neg (by omega), if_neg (by omega), e1]) (h1.weak fun c _ hc => ?_) hg (Nat.le_refl _) (fun e => .inl e)
        rcases hc with rfl | hc
        · exact .inl (.inr ⟨m1, b4, m2, b5, b6⟩)
        · exact .inr (.inr hc)
theorem l0_is {n : Nat} (hn : n ≤ 400) {C : List (List Int)} {G : List Int} (hC : Nam n C) (hCl : C.length ≤ 1400) (hcl : ∀ c ∈ C, c.length ≤ 8) : ∀ (z : Nat) (v : List Int), cz v ≤ z → St n C G v [] (fun c => c ∈ C) →
    ∃ r, Res n C G r ∧ ∃ s v', (∀ k, spec_l6Force.l0 (k + s) v true (n : Int) C = some (r.isNone, v')) ∧ (∀ u, r = some u → v' = u)
  | z, v, hz, h => by
    have e0 : ∀ k, spec_l6Force.l0 (k + 1) v true (n : Int) C = spec_l6Force.l1 k v false C (C.length : Int) ((0 : Nat) : Int) (n : Int) C := fun k => by
      rw [spec_l6Force.l0, if_pos rfl]; rfl
    rcases l1_is hn hC hCl hcl C.length 0 v [] false (by omega) (by rw [List.drop_zero]; exact h) (fun _ => rfl) with ⟨r1, s, v', r2⟩ | ⟨s, v', o', g', r1, r2, r3, r4, r5⟩
    · exact ⟨none, r1, s + 1, v', fun k => by rw [← Nat.add_assoc, e0, r2]; rfl, fun u hu => by cases hu⟩
    · cases g' with
      | false =>
        have ho := r3 rfl
        subst ho
        refine ⟨some v', r2, 1 + s + 1, v', fun k => ?_, fun u hu => Option.some.inj hu⟩
        rw [← Nat.add_assoc, e0, ← Nat.add_assoc, r1, spec_l6Force.l0, if_neg (by decide)]
        rfl
      | true =>
        have hlt : cz v' < cz v := by
          rcases r5 rfl with e | e
          · cases e
          · exact e
        cases z with
        | zero => omega
        | succ z =>
          obtain ⟨r, hr, s2, v2, h3, h4⟩ := l0_is hn hC hCl hcl z v' (by omega) (⟨r2.vec, r2.snd, r2.giv, fun c hc => .inr (.inr hc)⟩)
          refine ⟨r, hr, s2 + s + 1, v2, fun k => ?_, h4⟩
          rw [← Nat.add_assoc, e0, ← Nat.add_assoc, r1, h3]
end Go.Proofs.Ytdmngodinbelfaa.Pure

namespace Go.Proofs.Ytdmngodinbelfaa.Pure
open Go.RowKit Go.Proofs.Ytdmngodinbelfaa.X Go.Proofs.YtdmngodinbelfaaW.PrintWords Go.Proofs.YtdmngodinbelfaaW.PrintLast Go.Proofs.YtdmngodinbelfaaW.PrintMore Go.Proofs.Ytdmngodinbelfaa.Bits
theorem rdBool_at {t : List Bool} {i : Nat} (h : i < t.length) : rdOf false t (i : Int) = t[i] := by
  unfold rdOf
  rw [Int.toNat_natCast, List.getD_eq_getElem?_getD, List.getElem?_eq_getElem h]; rfl
theorem toBool_loop (l : List Bool) (hl : l.length ≤ 1048576) (d : Nat) : ∀ (i : Nat) (k : Nat), i + d = l.length → d < k →
    laws_toBoolS.l0 k l ((l.take i) ++ List.replicate d false) (i : Int) = some (l) := by
  induction d with
  | zero =>
    intro i k hi hk
    obtain ⟨k, rfl⟩ : ∃ m, k = m + 1 := ⟨k - 1, by omega⟩
    simp only [laws_toBoolS.l0]
    rw [if_neg (by omega), List.take_of_length_le (by omega)]
    simp
  | succ d ih =>
    intro i k hi hk
    obtain ⟨k, rfl⟩ : ∃ m, k = m + 1 := ⟨k - 1, by omega⟩
    have hit : i < l.length := by omega
    have e1 : wrap64 ((i : Int) + 1) = ((i + 1 : Nat) : Int) := by rw [wrap64_id _ (by omega) (by omega)]; omega
    simp only [laws_toBoolS.l0]
    rewrite [if_pos (by omega), if_pos (by omega)]
    rewrite [if_pos (by simp; omega), rdBool_at hit, e1, Int.toNat_natCast, List.replicate_succ, set_mid _ _ _ _ _ (by simp; omega)]
    have h2 : (l.take i) ++ l[i] :: List.replicate d false = (l.take (i + 1)) ++ List.replicate d false := by
      rw [List.take_add_one, List.getElem?_eq_getElem hit, Option.toList_some, List.append_assoc]
      rfl
    rewrite [h2]
    exact ih (i + 1) k (by omega) (by omega)
theorem toBool_val (k : Nat) (l : List Bool) (hl : l.length ≤ 1048576) (hk : l.length < k) : laws_toBoolS.f k l = some (l) := by
  unfold laws_toBoolS.f
  rw [if_pos (by omega), Int.toNat_natCast, if_pos (by omega)]
  have := toBool_loop l hl l.length 0 k (by omega) hk
  simpa using this
theorem eqBool_loop (l : List Bool) (hl : l.length ≤ 1048576) (d : Nat) : ∀ (i : Nat) (k : Nat), i + d = l.length → d < k → laws_eqBoolS.l0 k l l (i : Int) = some true := by
  induction d with
  | zero =>
    intro i k hi hk
    obtain ⟨k, rfl⟩ : ∃ m, k = m + 1 := ⟨k - 1, by omega⟩
    simp only [laws_eqBoolS.l0]
    rw [if_neg (by omega)]
  | succ d ih =>
    intro i k hi hk
    obtain ⟨k, rfl⟩ : ∃ m, k = m + 1 := ⟨k - 1, by omega⟩
    have e1 : wrap64 ((i : Int) + 1) = ((i + 1 : Nat) : Int) := by rw [wrap64_id _ (by omega) (by omega)]; omega
    simp only [laws_eqBoolS.l0]
    rewrite [if_pos (by omega), if_pos (by omega), if_pos (by omega)]
    rewrite [if_neg (by simp)]
    rewrite [e1]
    exact ih (i + 1) k (by omega) (by omega)
theorem eqBool_val (k : Nat) (l : List Bool) (hl : l.length ≤ 1048576) (hk : l.length < k) : laws_eqBoolS.f k l l = some true := by
  unfold laws_eqBoolS.f
  rw [if_pos rfl]
  exact eqBool_loop l hl l.length 0 k (by omega) hk

end Go.Proofs.Ytdmngodinbelfaa.Pure

namespace Go.Proofs.Ytdmngodinbelfaa.Pure
open Go.RowKit Go.Proofs.Ytdmngodinbelfaa.X Go.Proofs.YtdmngodinbelfaaW.PrintWords Go.Proofs.YtdmngodinbelfaaW.PrintLast Go.Proofs.YtdmngodinbelfaaW.PrintMore Go.Proofs.Ytdmngodinbelfaa.Bits
/-- A list of n elements, numbered on from m. -/
def mkBool (m : Int) : Nat → List Bool
  | 0 => []
  | n + 1 => (Int.tmod (m) 3 == 0) :: mkBool (m + 1) n
theorem mkBool_len (n : Nat) : ∀ m, (mkBool m n).length = n := by
  induction n with
  | zero => intro m; rfl
  | succ n ih => intro m; simp [mkBool, ih]
theorem mkBool_snoc (n : Nat) : ∀ m, mkBool m (n + 1) = mkBool m n ++ [(Int.tmod (m + 1 * (n : Int)) 3 == 0)] := by
  induction n with
  | zero => intro m; simp [mkBool]
  | succ n ih =>
    intro m
    rw [mkBool, ih (m + 1), mkBool, List.cons_append]
    have : m + 1 + 1 * (n : Int) = m + 1 * ((n + 1 : Nat) : Int) := by omega
    rw [this]
theorem mkBool_at (m : Int) (n i : Nat) (h : i < n) : rdOf false (mkBool m n) (i : Int) = (Int.tmod (m + 1 * (i : Int)) 3 == 0) := by
  induction n generalizing m i with
  | zero => omega
  | succ n ih =>
    cases i with
    | zero => simp [rdOf, mkBool]
    | succ i =>
      have := ih (m + 1) i (by omega)
      unfold rdOf at this ⊢
      rw [Int.toNat_natCast] at this ⊢
      rw [mkBool, List.getD_cons_succ, this]
      have e : m + 1 + 1 * (i : Int) = m + 1 * ((i + 1 : Nat) : Int) := by omega
      rw [e]
theorem markBool_loop (b : Int) (hb : 0 ≤ b) (hb2 : b ≤ 100000000) (l : List Bool) (hl : l.length ≤ 1048576) (d : Nat) : ∀ (i k : Nat), i + d = l.length → d < k →
    laws_markBoolS.l0 k (mkBool b i ++ l.drop i) (b + 1 * (i : Int)) (i : Int) = some (b + 1 * (l.length : Int), mkBool b l.length) := by
  induction d with
  | zero =>
    intro i k hi hk
    obtain ⟨k, rfl⟩ : ∃ m, k = m + 1 := ⟨k - 1, by omega⟩
    obtain rfl : i = l.length := by omega
    simp only [laws_markBoolS.l0]
    rw [if_neg (by simp [mkBool_len]), List.drop_eq_nil_of_le (by omega), List.append_nil]
  | succ d ih =>
    intro i k hi hk
    obtain ⟨k, rfl⟩ : ∃ m, k = m + 1 := ⟨k - 1, by omega⟩
    have hit : i < l.length := by omega
    have e1 : wrap64 ((i : Int) + 1) = ((i + 1 : Nat) : Int) := by rw [wrap64_id _ (by omega) (by omega)]; omega
    have q0 : wrap64 (b + 1 * (i : Int) + 1) = b + 1 * ((i + 1 : Nat) : Int) := by rw [wrap64_id _ (by omega) (by omega)]; omega
    have hd : l.drop i = l[i] :: l.drop (i + 1) := List.drop_eq_getElem_cons hit
    have hset : ∀ y z : Bool, (mkBool b i ++ y :: l.drop (i + 1)).set i z = mkBool b i ++ z :: l.drop (i + 1) := fun y z => set_mid _ _ _ _ _ (by rw [mkBool_len])
    simp only [laws_markBoolS.l0]
    rewrite [if_pos (by simp [mkBool_len]; omega), if_pos (by omega)]
    (try simp only [Option.bind_some])
    rewrite [hd, Int.toNat_natCast, hset, e1, q0]
    have := ih (i + 1) k (by omega) (by omega)
    rw [mkBool_snoc, List.append_assoc] at this
    exact this
theorem markBool_val (k : Nat) (b : Int) (hb : 0 ≤ b) (hb2 : b ≤ 100000000) (l : List Bool) (hl : l.length ≤ 1048576) (hk : l.length < k) : laws_markBoolS.f k l b = some (b + 1 * (l.length : Int), mkBool b l.length) := by
  have := markBool_loop b hb hb2 l hl l.length 0 k (by omega) hk
  unfold laws_markBoolS.f
  simpa [mkBool] using this
theorem heldBool_loop (b : Int) (hb : 0 ≤ b) (hb2 : b ≤ 100000000) (n : Nat) (hn : n ≤ 1048576) (d : Nat) : ∀ (i k : Nat), i + d = n → d < k →
    laws_heldBoolS.l0 k (mkBool b n) (b + 1 * (i : Int)) (i : Int) = some (b + 1 * (n : Int)) := by
  induction d with
  | zero =>
    intro i k hi hk
    obtain ⟨k, rfl⟩ : ∃ m, k = m + 1 := ⟨k - 1, by omega⟩
    obtain rfl : i = n := by omega
    simp only [laws_heldBoolS.l0]
    rw [if_neg (by rw [mkBool_len]; omega)]
  | succ d ih =>
    intro i k hi hk
    obtain ⟨k, rfl⟩ : ∃ m, k = m + 1 := ⟨k - 1, by omega⟩
    have e1 : wrap64 ((i : Int) + 1) = ((i + 1 : Nat) : Int) := by rw [wrap64_id _ (by omega) (by omega)]; omega
    have q0 : wrap64 (b + 1 * (i : Int) + 1) = b + 1 * ((i + 1 : Nat) : Int) := by rw [wrap64_id _ (by omega) (by omega)]; omega
    simp only [laws_heldBoolS.l0]
    rewrite [if_pos (by rw [mkBool_len]; omega), if_pos (by omega), mkBool_at b n i (by omega), q0]
    rewrite [if_neg (by simp), e1]
    exact ih (i + 1) k (by omega) (by omega)
theorem heldBool_val (k : Nat) (b : Int) (hb : 0 ≤ b) (hb2 : b ≤ 100000000) (n : Nat) (hn : n ≤ 1048576) (hk : n < k) : laws_heldBoolS.f k (mkBool b n) b = some (b + 1 * (n : Int)) := by
  have := heldBool_loop b hb hb2 n hn n 0 k (by omega) hk
  unfold laws_heldBoolS.f
  simpa using this

end Go.Proofs.Ytdmngodinbelfaa.Pure

namespace Go.Proofs.Ytdmngodinbelfaa.Pure
open Go.RowKit Go.Proofs.Ytdmngodinbelfaa.X Go.Proofs.YtdmngodinbelfaaW.PrintWords Go.Proofs.YtdmngodinbelfaaW.PrintLast Go.Proofs.YtdmngodinbelfaaW.PrintMore Go.Proofs.Ytdmngodinbelfaa.Bits
theorem fkA_is (v : List Int) : ∀ (d i : Nat), i + d = v.length → i ≤ fkA v d i ∧ fkA v d i ≤ v.length ∧ (fkA v d i < v.length → rd v (fkA v d i : Int) = 0)
  | 0, i, h => by
    rw [fkA]
    exact ⟨Nat.le_refl _, by omega, fun h2 => by omega⟩
  | d + 1, i, h => by
    rw [fkA]
    by_cases h0 : rd v (i : Int) = 0
    · rw [if_pos h0]
      exact ⟨Nat.le_refl _, by omega, fun _ => h0⟩
    · rw [if_neg h0]
      obtain ⟨a1, a2, a3⟩ := fkA_is v d (i + 1) (by omega)
      exact ⟨by omega, a2, a3⟩
theorem rd_drop1 (v : List Int) (i : Nat) : rd (v.drop 1) (i : Int) = rd v ((i + 1 : Nat) : Int) := by
  unfold rd
  rw [Int.toNat_natCast, Int.toNat_natCast, List.getD_eq_getElem?_getD, List.getD_eq_getElem?_getD, List.getElem?_drop, Nat.add_comm 1 i]
/-- What the program's search for the first place comes to. -/
def fkR (v : List Int) (t : Nat) : Int := if t = v.length then -1 else (t : Int) - 1
theorem index_is (v : List Int) (hl : v.length ≤ 1000) (d : Nat) : ∀ (i k : Nat), i + 1 + d = v.length → d < k →
    slices_Index_int.l0 k (v.drop 1) 0 ((v.drop 1).length : Int) (i : Int) = some (fkR v (fkA v d (i + 1))) := by
  induction d with
  | zero =>
    intro i k hi hk
    obtain ⟨k, rfl⟩ : ∃ m, k = m + 1 := ⟨k - 1, by omega⟩
    have hdl : (v.drop 1).length = v.length - 1 := List.length_drop
    rw [slices_Index_int.l0, if_neg (by omega), fkA]
    unfold fkR
    rw [if_pos (by omega)]
  | succ d ih =>
    intro i k hi hk
    obtain ⟨k, rfl⟩ : ∃ m, k = m + 1 := ⟨k - 1, by omega⟩
    have hdl : (v.drop 1).length = v.length - 1 := List.length_drop
    have e1 : wrap64 ((i : Int) + 1) = ((i + 1 : Nat) : Int) := by rw [wrap64_id _ (by omega) (by omega)]; omega
    rw [slices_Index_int.l0, if_pos (by omega), if_pos (by omega), if_pos (by omega), rd_drop1, e1, fkA]
    by_cases h0 : rd v ((i + 1 : Nat) : Int) = 0
    · rw [if_pos h0.symm, if_pos h0]
      unfold fkR
      rw [if_neg (by omega)]
      congr 1
      omega
    · rw [if_neg (fun e => h0 e.symm), if_neg h0]
      exact ih (i + 1) k (by omega) (by omega)
theorem vals_loop (n : Int) (C : List (List Int)) (x y : Int) (t : List Int) (hl : t.length ≤ 1000) (d : Nat) : ∀ (i k : Nat) (acc : List Bool), i + d = t.length → d < k → acc.length ≤ i →
    impl_search_examine.l0 k acc t (t.length : Int) (i : Int) n C x y = some (1, acc ++ (t.drop i).map (fun z => decide (z > 0)), n, x, y) := by
  induction d with
  | zero =>
    intro i k acc hi hk ha
    obtain ⟨k, rfl⟩ : ∃ m, k = m + 1 := ⟨k - 1, by omega⟩
    rw [impl_search_examine.l0, if_neg (by omega), List.drop_eq_nil_of_le (by omega), List.map_nil, List.append_nil]
  | succ d ih =>
    intro i k acc hi hk ha
    obtain ⟨k, rfl⟩ : ∃ m, k = m + 1 := ⟨k - 1, by omega⟩
    have hit : i < t.length := by omega
    have e1 : wrap64 ((i : Int) + 1) = ((i + 1 : Nat) : Int) := by rw [wrap64_id _ (by omega) (by omega)]; omega
    have hd : t.drop i = t[i] :: t.drop (i + 1) := List.drop_eq_getElem_cons hit
    rw [impl_search_examine.l0, if_pos (by omega), if_pos (by omega), if_pos (by omega), if_pos (by omega), rdInt_at hit, e1, hd, ih (i + 1) k _ (by omega) (by omega) (by rw [List.length_append, List.length_singleton]; omega), List.map_cons, List.append_assoc]
    rfl
theorem gB_snoc (n x : Int) : ∀ (t q : List Int), gB n q (t ++ [x]) = (gB n q t && (litB n x && (!decide (x ∈ q ++ t) && !decide (-x ∈ q ++ t))))
  | [], q => by
    rw [List.nil_append, List.append_nil, gB, gB, gB, Bool.and_true, Bool.true_and]
  | y :: t, q => by
    rw [List.cons_append, gB, gB, gB_snoc n x t (q ++ [y]), List.append_assoc, List.singleton_append, Bool.and_assoc, Bool.and_assoc, Bool.and_assoc]
theorem cz_one {n : Nat} {v : List Int} (h : Vec n v) : 1 ≤ cz v := by
  have h0 := h.at0
  have hl := h.len
  cases v with
  | nil => simp at hl
  | cons y t =>
    have hy : y = 0 := h0
    unfold cz
    rw [hy, List.count_cons_self]
    omega
theorem gB_len {n : Nat} (hn : n ≤ 400) {A : List Int} (hg : gB (n : Int) [] A = true) : A.length ≤ n := by
  obtain ⟨v0, _, _, e3, e4⟩ := start_is (C := []) hn hg
  have := cz_one e4
  omega
theorem Der.more {C : List (List Int)} {G H : List Int} {x : Int} (h : Der C G x) (hs : ∀ g ∈ G, g ∈ H) : Der C H x := fun S hg hc => h S (fun g hm => hg g (hs g hm)) hc
/-- A literal more, of a name that has no value. -/
theorem next_is {n : Nat} {C : List (List Int)} {A v : List Int} (hg : gB (n : Int) [] A = true) (h : St n C A v [] (fun _ => False)) {x : Int} (hx : x ≠ 0) (hxn : x.natAbs ≤ n) (hu : un v x) :
    gB (n : Int) [] (A ++ [x]) = true ∧ St n C (A ++ [x]) (setL v x) [] (fun c => c ∈ C) := by
  have ht := tr_set h.vec hx hxn hu
  refine ⟨?_, vec_set h.vec hx hxn, fun y hy => ?_, fun g hm => ?_, fun c hc => .inr (.inr hc)⟩
  · have n1 : ¬ x ∈ A := fun e => tr_un (h.giv _ e) hu
    have n2 : ¬ -x ∈ A := fun e => tr_un (h.giv _ e) (un_neg.2 hu)
    rw [gB_snoc, hg, List.nil_append, decide_eq_false n1, decide_eq_false n2, show litB (n : Int) x = true from decide_eq_true ⟨hx, by omega, by omega⟩]
    rfl
  · rcases (ht y).1 hy with e | rfl
    · exact (h.snd y e).more fun g hm => List.mem_append_left _ hm
    · exact Der.giv (List.mem_append_right _ List.mem_cons_self)
  · rcases List.mem_append.1 hm with e | e
    · exact (ht g).2 (.inl (h.giv g e))
    · exact (ht g).2 (.inr (List.mem_singleton.1 e))
theorem map_sgn {n : Nat} {v : List Int} (h : Vec n v) : (v.drop 1).map (fun z => decide (z > 0)) = (v.drop 1).map (fun y => y == 1) := by
  apply List.map_congr_left
  intro a ha
  obtain ⟨i, hi, rfl⟩ := List.getElem_of_mem (List.mem_of_mem_drop ha)
  have := h.sgn i
  rw [List.getD_eq_getElem?_getD, List.getElem?_eq_getElem hi, Option.getD_some] at this
  rcases this with e | e | e <;> rw [e] <;> rfl
theorem clone_val (A : List Int) (h : A.length ≤ 1000) : slices_Clone_int.f A = some A := by
  unfold slices_Clone_int.f
  rw [Option.bind_some, List.nil_append, if_pos (by rw [List.length_nil]; omega)]
theorem both_search {n : Nat} {C : List (List Int)} (h : cnfB (n : Int) C = true) (b : Int) (hb1 : b ≤ 300) : ∀ (d : Nat) (A s : List Int) (m : Int), A.length + d = n → gB (n : Int) [] A = true → St n C A s [] (fun c => c ∈ C) → 0 ≤ m → m ≤ b →
    ∃ K code vals m', m ≤ m' ∧ m' ≤ b ∧ vals.length ≤ n ∧ ∀ k, K ≤ k → impl_search_examine.f k (n : Int) C (b - m) m A = some (code, vals, (n : Int), b - m', m') ∧ trF k (n : Int) C b m s = some (code, vals, m') := by
  obtain ⟨b1, b2, b3, b4⟩ := cnB_is h
  have hn : n ≤ 400 := by omega
  have hC := nam_of h
  have hcl : ∀ c ∈ C, c.length ≤ 8 := fun c hc => (clB_is (b4 c hc)).1
  intro d
  induction d using Nat.strongRecOn with
  | ind d ih =>
    intro A s m hd hg hst hm0 hmb
    obtain ⟨r, hr, hi⟩ := cnfForced_is h hg
    obtain ⟨r2, hr2, s2, v', hs, hu⟩ := l0_is hn hC (by omega) hcl (cz s) s (Nat.le_refl _) hst
    obtain rfl := Res.same hr hr2
    have hsp : ∀ k, s2 ≤ k → spec_l6Force.f k (n : Int) C s = some (r.isNone, v') := fun k hk => by
      unfold spec_l6Force.f
      have := hs (k - s2)
      rwa [show k - s2 + s2 = k by omega] at this
    have hsl := hst.vec.len
    have hcond : (s.length : Int) = (n : Int) + 1 ∧ 0 ≤ (n : Int) ∧ (n : Int) ≤ 1000000 := ⟨by omega, by omega, by omega⟩
    cases r with
    | none =>
      refine ⟨n + 3 + s2, 2, [], m, Int.le_refl _, hmb, by simp, fun k hk => ?_⟩
      obtain ⟨k, rfl⟩ : ∃ j, k = j + 1 := ⟨k - 1, by omega⟩
      constructor
      · rw [impl_search_examine.f, hi k (by omega), Option.bind_some]
        exact if_pos rfl
      · rw [trF, if_pos hcond, hsp k (by omega), Option.bind_some]
        exact if_pos rfl
    | some v =>
      obtain rfl := hu v rfl
      have hr : St n C A v' [] (fun _ => False) := hr
      replace hi : ∀ k, n + 1 < k → impl_Cnf_forced.f k (n : Int) C A = some (v', false) := hi
      have hv := hr.vec
      have hl := hv.len
      obtain ⟨T, hT⟩ : ∃ T, fkA v' n 1 = T := ⟨_, rfl⟩
      obtain ⟨t1, t2, t3⟩ := fkA_is v' n 1 (by omega)
      rw [hT] at t1 t2 t3
      have hdl : (v'.drop 1).length = v'.length - 1 := List.length_drop
      have hix : ∀ k, n < k → slices_Index_int.f k (v'.drop 1) 0 = some (fkR v' T) := fun k hk => by
        unfold slices_Index_int.f
        have := index_is v' (by omega) n 0 k (by omega) hk
        rw [show 0 + 1 = 1 from rfl, hT, Int.natCast_zero] at this
        exact this
      have hw : wrap64 (fkR v' T + 1) = if T = v'.length then 0 else (T : Int) := by
        unfold fkR
        split
        · rw [wrap64_id _ (by omega) (by omega)]; omega
        · rw [wrap64_id _ (by omega) (by omega)]; omega
      have hs1 : ∀ k, s2 ≤ k → trF (k + 1) (n : Int) C b m s = if T = v'.length then some (1, (v'.drop 1).map (fun y => y == 1), m) else if m = b then some (3, [], m) else (trF k (n : Int) C b (wrap64 (m + 1)) (v'.set T (-1))).bind fun q => if q.1 = 2 then trF k (n : Int) C b q.2.2 (v'.set T 1) else some q := fun k hk => by
        rw [trF, if_pos hcond, hsp k hk, Option.bind_some]
        dsimp only [Option.isNone_some]
        rw [if_neg (by decide), Int.toNat_natCast, hT]
      by_cases hTl : T = v'.length
      · rw [if_pos hTl] at hw
        refine ⟨2 * n + 5 + s2, 1, (v'.drop 1).map (fun y => y == 1), m, Int.le_refl _, hmb, by rw [List.length_map]; omega, fun k hk => ?_⟩
        obtain ⟨k, rfl⟩ : ∃ j, k = j + 1 := ⟨k - 1, by omega⟩
        rw [impl_search_examine.f, hi k (by omega), Option.bind_some, hs1 k (by omega), if_pos hTl]
        refine ⟨?_, rfl⟩
        dsimp only
        rw [if_neg (by decide), if_pos (by omega), hix k (by omega), Option.bind_some, hw, if_pos rfl, Option.bind_some]
        have := vals_loop (n : Int) C (b - m) m (v'.drop 1) (by omega) (v'.drop 1).length 0 k [] (by omega) (by omega) (by simp)
        rw [List.nil_append, List.drop_zero, map_sgn hv] at this
        exact this
      · rw [if_neg hTl] at hw
        have hTp : (T : Int) ≠ 0 := by omega
        by_cases hmb2 : m = b
        · refine ⟨2 * n + 5 + s2, 3, [], m, Int.le_refl _, hmb, by simp, fun k hk => ?_⟩
          obtain ⟨k, rfl⟩ : ∃ j, k = j + 1 := ⟨k - 1, by omega⟩
          rw [impl_search_examine.f, hi k (by omega), Option.bind_some, hs1 k (by omega), if_neg hTl, if_pos hmb2]
          refine ⟨?_, rfl⟩
          dsimp only
          rw [if_neg (by decide), if_pos (by omega), hix k (by omega), Option.bind_some, hw, if_neg hTp, if_pos (by omega)]
        · have hz : v'.getD T 0 = 0 := by
            have := t3 (by omega)
            unfold rd at this
            rwa [Int.toNat_natCast] at this
          have hu1 : un v' (-(T : Int)) := by unfold un; rw [Int.natAbs_neg, Int.natAbs_natCast]; exact hz
          have hu2 : un v' (T : Int) := by unfold un; rw [Int.natAbs_natCast]; exact hz
          obtain ⟨g1, p1⟩ := next_is hg hr (x := -(T : Int)) (by omega) (by omega) hu1
          obtain ⟨g2, p2⟩ := next_is hg hr (x := (T : Int)) hTp (by omega) hu2
          have q1 : setL v' (-(T : Int)) = v'.set T (-1) := by
            unfold setL foS
            rw [Int.natAbs_neg, Int.natAbs_natCast, if_pos (by omega)]
          have q2 : setL v' (T : Int) = v'.set T 1 := by
            unfold setL foS
            rw [Int.natAbs_natCast, if_neg (by omega), if_pos (by omega)]
          rw [q1] at p1
          rw [q2] at p2
          have hlen := gB_len hn g1
          rw [List.length_append, List.length_singleton] at hlen
          have hAl : A.length ≤ 1000 := by omega
          obtain ⟨K1, c1, v1, m1, j1, j2, j3, hk1⟩ := ih (d - 1) (by omega) (A ++ [-(T : Int)]) (v'.set T (-1)) (m + 1) (by rw [List.length_append, List.length_singleton]; omega) g1 p1 (by omega) (by omega)
          have e2 : wrap64 (b - m - 1) = b - (m + 1) := by rw [wrap64_id _ (by omega) (by omega)]; omega
          have e3 : wrap64 (m + 1) = m + 1 := wrap64_id _ (by omega) (by omega)
          have e4 : wrap64 (-(T : Int)) = -(T : Int) := wrap64_id _ (by omega) (by omega)
          have hst2 : ∀ k, 2 * n + 5 + s2 + K1 ≤ k → impl_search_examine.f (k + 1) (n : Int) C (b - m) m A = if c1 = 2 then (impl_search_examine.f k (n : Int) C (b - m1) m1 (A ++ [(T : Int)])).bind fun t => some (t.1, t.2.1, t.2.2.1, t.2.2.2.1, t.2.2.2.2) else some (c1, v1, (n : Int), b - m1, m1) := fun k hk => by
            rw [impl_search_examine.f, hi k (by omega), Option.bind_some]
            dsimp only
            rw [if_neg (by decide), if_pos (by omega), hix k (by omega), Option.bind_some, hw, if_neg hTp, if_neg (by omega), clone_val A hAl, Option.bind_some, if_pos (by omega), e2, e3, e4, (hk1 k (by omega)).1, Option.bind_some]
            dsimp only
            by_cases hc : c1 = 2
            · rw [if_pos hc, if_pos hc, Option.bind_some, if_pos (by omega)]
            · rw [if_neg hc, if_neg hc]
          by_cases hc : c1 = 2
          · obtain ⟨K2, c2, v2, m2, l1, l2, l3, hk2⟩ := ih (d - 1) (by omega) (A ++ [(T : Int)]) (v'.set T 1) m1 (by rw [List.length_append, List.length_singleton]; omega) g2 p2 (by omega) (by omega)
            refine ⟨2 * n + 6 + s2 + K1 + K2, c2, v2, m2, by omega, by omega, l3, fun k hk => ?_⟩
            obtain ⟨k, rfl⟩ : ∃ j, k = j + 1 := ⟨k - 1, by omega⟩
            rw [hst2 k (by omega), if_pos hc, (hk2 k (by omega)).1, Option.bind_some, hs1 k (by omega), if_neg hTl, if_neg hmb2, e3, (hk1 k (by omega)).2, Option.bind_some]
            exact ⟨rfl, (if_pos hc).trans (hk2 k (by omega)).2⟩
          · refine ⟨2 * n + 6 + s2 + K1, c1, v1, m1, by omega, by omega, j3, fun k hk => ?_⟩
            obtain ⟨k, rfl⟩ : ∃ j, k = j + 1 := ⟨k - 1, by omega⟩
            rw [hst2 k (by omega), if_neg hc, hs1 k (by omega), if_neg hTl, if_neg hmb2, e3, (hk1 k (by omega)).2, Option.bind_some]
            exact ⟨rfl, if_neg hc⟩
end Go.Proofs.Ytdmngodinbelfaa.Pure

namespace Go.Proofs.Ytdmngodinbelfaa.Pure
open Go.RowKit Go.Proofs.Ytdmngodinbelfaa.X Go.Proofs.YtdmngodinbelfaaW.PrintWords Go.Proofs.YtdmngodinbelfaaW.PrintLast Go.Proofs.YtdmngodinbelfaaW.PrintMore Go.Proofs.Ytdmngodinbelfaa.Bits
theorem budget_is (b : Int) : impl_isBudget.f b = some (decide (0 ≤ b ∧ b ≤ 300)) ∧ spec_l1In.f b 0 300 = some (decide (0 ≤ b ∧ b ≤ 300)) := by
  unfold impl_isBudget.f spec_l1In.f
  by_cases h : b ≥ 0
  · have h2 : 0 ≤ b := h
    rw [if_pos h, decide_eq_decide.mpr (show b ≤ 300 ↔ 0 ≤ b ∧ b ≤ 300 by omega)]
    exact ⟨rfl, rfl⟩
  · rw [if_neg h, decide_eq_false (show ¬ (0 ≤ b ∧ b ≤ 300) by omega)]
    exact ⟨rfl, rfl⟩
theorem both_solve (n : Int) (C : List (List Int)) (b : Int) : ∃ R : Int × List Bool × Int × Bool, R.2.1.length ≤ 1000 ∧ ∃ K, ∀ k, K ≤ k → impl_Solve.f k n C b = some R ∧ spec_Solve.f k n C b = some R := by
  obtain ⟨q1, q2⟩ := budget_is b
  by_cases h : cnfB n C = true
  case neg =>
    refine ⟨(0, [], 0, false), by simp, 1501, fun k hk => ?_⟩
    unfold impl_Solve.f spec_Solve.f
    rw [implCnf_val, specCnf_val _ _ k (by omega), Option.bind_some, Option.bind_some, if_neg h, if_neg h]
    exact ⟨rfl, rfl⟩
  by_cases hb : 0 ≤ b ∧ b ≤ 300
  case neg =>
    refine ⟨(0, [], 0, false), by simp, 1501, fun k hk => ?_⟩
    unfold impl_Solve.f spec_Solve.f
    rw [implCnf_val, specCnf_val _ _ k (by omega), Option.bind_some, Option.bind_some, if_pos h, if_pos h, q1, q2, Option.bind_some, Option.bind_some, decide_eq_false hb, if_neg (by decide)]
    exact ⟨rfl, rfl⟩
  obtain ⟨b1, b2, b3, b4⟩ := cnB_is h
  obtain ⟨n, rfl⟩ : ∃ m : Nat, n = (m : Int) := ⟨n.toNat, by omega⟩
  have hn : n ≤ 400 := by omega
  obtain ⟨z1, z2, z3⟩ := vec0 n
  obtain ⟨v0, e1, e2, e3, e4⟩ := start_is (C := C) hn (show gB (n : Int) [] [] = true from rfl)
  have hv0 : v0 = List.replicate (n + 1) 0 := (congrArg Prod.fst e1).symm
  obtain ⟨K, code, vals, m', _, _, l3, hk⟩ := both_search h b hb.2 n [] v0 0 (by simp) rfl (e2 [] _ fun c hc => hc) (Int.le_refl _) hb.1
  refine ⟨(code, vals, m', true), by show vals.length ≤ 1000; omega, K + 1501, fun k hk2 => ?_⟩
  obtain ⟨a1, a2⟩ := hk k (by omega)
  rw [Int.sub_zero] at a1
  unfold impl_Solve.f spec_Solve.f
  rw [implCnf_val, specCnf_val _ _ k (by omega), Option.bind_some, Option.bind_some, if_pos h, if_pos h, q1, q2, Option.bind_some, Option.bind_some, decide_eq_true hb, if_pos rfl, if_pos rfl, a1, show ((n : Int) + 1).toNat = n + 1 by omega, ← hv0, a2]
  exact ⟨rfl, rfl⟩
theorem isCnt_tot (l : List (List Int)) : isCnt l = total l := by
  unfold isCnt total
  rw [List.length_flatten]
theorem FnExactSolve : laws_FnExactSolve.Pure := by
  intro a0 l0 a1 _ h2 _
  have hb : ∀ a ∈ l0, a.length ≤ 9223372036854775807 := fun a ha => by have := (h2.2 a ha).1; unfold maxLen at this; omega
  have hl : l0.length ≤ 9223372036854775807 := by have := h2.1; unfold maxLen at this; omega
  by_cases hs : small l0
  case neg =>
    obtain ⟨K, hK⟩ := szCnf_big a0 l0 hl hb hs
    refine ⟨K, ?_⟩
    unfold laws_FnExactSolve.f
    rw [hK K (Nat.le_refl _), Option.bind_some, if_pos (by decide)]
  have hs' : l0.length + total l0 ≤ 1048576 := hs
  obtain ⟨R, hR, K, hK⟩ := both_solve a0 l0 a1
  obtain ⟨x, y, z, t⟩ := R
  have hy : y.length ≤ 1000 := hR
  obtain ⟨m, hm⟩ : ∃ m, m = K + l0.length + total l0 + 2000 := ⟨_, rfl⟩
  have hkk : ∀ k, m ≤ k → impl_Solve.f k a0 l0 a1 = some (x, y, z, t) ∧ spec_Solve.f k a0 l0 a1 = some (x, y, z, t) := fun k hk => hK k (by omega)
  have hto : ∀ k, m ≤ k → laws_toCnf.f k a0 l0 = some (a0, l0) := fun k hk => toCnf_val k a0 l0 hs (by omega)
  have heq : ∀ k, m ≤ k → laws_eqCnf.f k a0 l0 a0 l0 = some true := fun k hk => eqCnf_val k a0 l0 hs (by omega)
  have hey : ∀ k, m ≤ k → laws_eqBoolS.f k y y = some true := fun k hk => eqBool_val k y (by omega) (by omega)
  have hbb : ∀ b : Bool, (b != b) = false := fun b => by cases b <;> rfl
  have hmk : laws_markCnf.f a0 l0 1 = some (1 + (isCnt l0 : Int)) := by
    unfold laws_markCnf.f
    rw [isCnt_tot, if_pos ⟨by decide, by omega, by omega⟩]
  have hmx : ∀ k, m ≤ k → laws_markBoolS.f k y 1 = some (1 + 1 * (y.length : Int), mkBool 1 y.length) := fun k hk => markBool_val k 1 (by decide) (by decide) y (by omega) (by omega)
  have hhx : ∀ k, m ≤ k → laws_heldBoolS.f k (mkBool 1 y.length) 1 = some (1 + 1 * (y.length : Int)) := fun k hk => heldBool_val k 1 (by decide) (by decide) y.length (by omega) (by omega)
  have hj2 : ∀ k, m ≤ k → laws_FnExactSolve.j2 (k + 1) (mkBool 1 y.length) (1 + 1 * (y.length : Int)) false = some true := fun k hk => by
    rw [laws_FnExactSolve.j2, if_neg (by decide), hhx k hk, Option.bind_some, if_neg (by omega), if_pos rfl]
  have hj1 : ∀ k, m ≤ k → laws_FnExactSolve.j1 (k + 2) a1 x y z t y false a0 l0 = some true := fun k hk => by
    rw [laws_FnExactSolve.j1, if_neg (by decide), hmx _ (by omega), Option.bind_some]
    dsimp only
    rw [hhx _ (by omega), Option.bind_some, if_neg (by omega), if_pos rfl, hto _ (by omega), Option.bind_some]
    dsimp only
    rw [(hkk _ (by omega)).1, Option.bind_some]
    dsimp only
    rw [if_pos rfl, hey _ (by omega), Option.bind_some, if_pos rfl, if_pos rfl, hbb]
    exact hj2 k hk
  refine ⟨m + 3, ?_⟩
  unfold laws_FnExactSolve.f
  rw [szCnf_val a0 l0 hl hb (m + 3) (fun _ => by omega) hs, Option.bind_some, if_neg (by omega), hto _ (by omega), Option.bind_some]
  dsimp only
  rw [(hkk _ (by omega)).2, Option.bind_some]
  dsimp only
  rw [Option.bind_some]
  dsimp only
  rw [(hkk _ (by omega)).1, Option.bind_some]
  dsimp only
  rw [if_pos rfl, hey _ (by omega), Option.bind_some, if_pos rfl, if_pos rfl, hbb]
  rw [laws_FnExactSolve.j0, if_neg (by decide), hto _ (by omega), Option.bind_some]
  dsimp only
  rw [heq _ (by omega), Option.bind_some, if_pos rfl, hmk, Option.bind_some, if_neg (by omega), if_pos rfl, hey _ (by omega), Option.bind_some, if_pos rfl, if_pos rfl, hbb]
  exact hj1 m (Nat.le_refl _)
end Go.Proofs.Ytdmngodinbelfaa.Pure
