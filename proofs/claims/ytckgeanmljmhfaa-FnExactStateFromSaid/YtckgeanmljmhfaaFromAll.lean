/- Bits of 64-bit words as the model tells them: and, or, xor, shifts and masks as remainders and powers of two. No condition. The laws' own list functions (copying, comparing, measuring, writing over, looking again) come to plain lists. Conditions: lists no longer than 2^20. Written by wip/xp/lists.py. The laws' own list functions (copying, comparing, measuring, writing over, looking again) come to plain lists. Conditions: lists no longer than 2^20. Written by wip/xp/lists.py. The law on StateFrom: both sides lay the bits of each chunk into its word. Conditions: those of the law's own Pure. -/
import Derived.Test.YtckgeanmljmhfaaWMore
import Derived.Laws.BitsLemmas
import Derived.Test.YtckgeanmljmhfaaXO
import Derived.Test.YtckgeanmljmhfaaX1
import Derived.Test.YtckgeanmljmhfaaX63
import Derived.Test.YtckgeanmljmhfaaX68
import Derived.Test.YtckgeanmljmhfaaX72
import Derived.Test.YtckgeanmljmhfaaX74
namespace Go.Proofs.Ytckgeanmljmhfaa.Bits
open Go.RowKit Go.Proofs.YtckgeanmljmhfaaW.PrintWords

theorem wrap_u64 (n : Int) : IntKind.u64.wrap n = n % 18446744073709551616 := by simp [IntKind.wrap, IntKind.bits, IntKind.signed]
theorem u64_id (n : Int) (h₀ : 0 ≤ n) (h₁ : n < 18446744073709551616) : IntKind.u64.wrap n = n := by rw [wrap_u64]; omega
theorem wrap64_id (n : Int) (h0 : -9223372036854775808 ≤ n) (h1 : n ≤ 9223372036854775807) : wrap64 n = n := by unfold wrap64; omega

/-- The words of a width. -/
def word (w a : Int) : Prop := 1 ≤ w ∧ w ≤ 64 ∧ 0 ≤ a ∧ a < 2 ^ w.toNat
instance (w a : Int) : Decidable (word w a) := by unfold word; infer_instance
end Go.Proofs.Ytckgeanmljmhfaa.Bits

namespace Go.Proofs.Ytckgeanmljmhfaa.Pure
open Go.RowKit Go.Proofs.Ytckgeanmljmhfaa.X Go.Proofs.YtckgeanmljmhfaaW.PrintWords Go.Proofs.YtckgeanmljmhfaaW.PrintLast Go.Proofs.YtckgeanmljmhfaaW.PrintMore Go.Proofs.Ytckgeanmljmhfaa.Bits
theorem set_mid {α : Type} (a b : List α) (x y : α) (n : Nat) (h : n = a.length) : (a ++ x :: b).set n y = a ++ y :: b := by
 subst h; simp
theorem rdBool_at {t : List Bool} {i : Nat} (h : i < t.length) : rdOf false t (i : Int) = t[i] := by
 unfold rdOf
 rw [Int.toNat_natCast, List.getD_eq_getElem?_getD, List.getElem?_eq_getElem h]; rfl
theorem toBool_loop (l : List Bool) (hl : l.length ≤ 1048576) (d : Nat) : ∀ (i : Nat) (k : Nat), i + d = l.length → d < k →
  laws_toBoolS.l0 k l ((l.take i) ++ List.replicate d false) (i : Int) = some (l) := by
 induction d with
 | zero =>
  intro i k hi hk
  obtain ⟨k, rfl⟩ : ∃ m, k = m + 1 := ⟨k - 1, by omega⟩
  simp only [laws_toBoolS.l0]
  rw [if_neg (by omega), List.take_of_length_le (by omega)]
  simp
 | succ d ih =>
  intro i k hi hk
  obtain ⟨k, rfl⟩ : ∃ m, k = m + 1 := ⟨k - 1, by omega⟩
  have hit : i < l.length := by omega
  have e1 : wrap64 ((i : Int) + 1) = ((i + 1 : Nat) : Int) := by rw [wrap64_id _ (by omega) (by omega)]; omega
  simp only [laws_toBoolS.l0]
  rewrite [if_pos (by omega), if_pos (by omega)]
  rewrite [if_pos (by simp; omega), rdBool_at hit, e1, Int.toNat_natCast, List.replicate_succ, set_mid _ _ _ _ _ (by simp; omega)]
  have h2 : (l.take i) ++ l[i] :: List.replicate d false = (l.take (i + 1)) ++ List.replicate d false := by
   rw [List.take_add_one, List.getElem?_eq_getElem hit, Option.toList_some, List.append_assoc]
   rfl
  rewrite [h2]
  exact ih (i + 1) k (by omega) (by omega)
theorem toBool_val (k : Nat) (l : List Bool) (hl : l.length ≤ 1048576) (hk : l.length < k) : laws_toBoolS.f k l = some (l) := by
 unfold laws_toBoolS.f
 rw [if_pos (by omega), Int.toNat_natCast, if_pos (by omega)]
 have := toBool_loop l hl l.length 0 k (by omega) hk
 simpa using this
theorem eqBool_loop (l : List Bool) (hl : l.length ≤ 1048576) (d : Nat) : ∀ (i : Nat) (k : Nat), i + d = l.length → d < k → laws_eqBoolS.l0 k l l (i : Int) = some true := by
 induction d with
 | zero =>
  intro i k hi hk
  obtain ⟨k, rfl⟩ : ∃ m, k = m + 1 := ⟨k - 1, by omega⟩
  simp only [laws_eqBoolS.l0]
  rw [if_neg (by omega)]
 | succ d ih =>
  intro i k hi hk
  obtain ⟨k, rfl⟩ : ∃ m, k = m + 1 := ⟨k - 1, by omega⟩
  have e1 : wrap64 ((i : Int) + 1) = ((i + 1 : Nat) : Int) := by rw [wrap64_id _ (by omega) (by omega)]; omega
  simp only [laws_eqBoolS.l0]
  rewrite [if_pos (by omega), if_pos (by omega), if_pos (by omega)]
  rewrite [if_neg (by simp)]
  rewrite [e1]
  exact ih (i + 1) k (by omega) (by omega)
theorem eqBool_val (k : Nat) (l : List Bool) (hl : l.length ≤ 1048576) (hk : l.length < k) : laws_eqBoolS.f k l l = some true := by
 unfold laws_eqBoolS.f
 rw [if_pos rfl]
 exact eqBool_loop l hl l.length 0 k (by omega) hk

theorem rdUint64_at {t : List Int} {i : Nat} (h : i < t.length) : rd t (i : Int) = t[i] := by
 unfold rd
 rw [Int.toNat_natCast, List.getD_eq_getElem?_getD, List.getElem?_eq_getElem h]; rfl
theorem eqUint64_loop (l : List Int) (hl : l.length ≤ 1048576) (d : Nat) : ∀ (i : Nat) (k : Nat), i + d = l.length → d < k → laws_eqUint64S.l0 k l l (i : Int) = some true := by
 induction d with
 | zero =>
  intro i k hi hk
  obtain ⟨k, rfl⟩ : ∃ m, k = m + 1 := ⟨k - 1, by omega⟩
  simp only [laws_eqUint64S.l0]
  rw [if_neg (by omega)]
 | succ d ih =>
  intro i k hi hk
  obtain ⟨k, rfl⟩ : ∃ m, k = m + 1 := ⟨k - 1, by omega⟩
  have e1 : wrap64 ((i : Int) + 1) = ((i + 1 : Nat) : Int) := by rw [wrap64_id _ (by omega) (by omega)]; omega
  simp only [laws_eqUint64S.l0]
  rewrite [if_pos (by omega), if_pos (by omega), if_pos (by omega)]
  rewrite [if_pos trivial]
  rewrite [e1]
  exact ih (i + 1) k (by omega) (by omega)
theorem eqUint64_val (k : Nat) (l : List Int) (hl : l.length ≤ 1048576) (hk : l.length < k) : laws_eqUint64S.f k l l = some true := by
 unfold laws_eqUint64S.f
 rw [if_pos rfl]
 exact eqUint64_loop l hl l.length 0 k (by omega) hk

end Go.Proofs.Ytckgeanmljmhfaa.Pure

namespace Go.Proofs.Ytckgeanmljmhfaa.Pure
open Go.RowKit Go.Proofs.Ytckgeanmljmhfaa.X Go.Proofs.YtckgeanmljmhfaaW.PrintWords Go.Proofs.YtckgeanmljmhfaaW.PrintLast Go.Proofs.YtckgeanmljmhfaaW.PrintMore Go.Proofs.Ytckgeanmljmhfaa.Bits
/-- A list of n elements, numbered on from m. -/
def mkBool (m : Int) : Nat → List Bool
 | 0 => []
 | n + 1 => (Int.tmod (m) 3 == 0) :: mkBool (m + 1) n
theorem mkBool_len (n : Nat) : ∀ m, (mkBool m n).length = n := by
 induction n with
 | zero => intro m; rfl
 | succ n ih => intro m; simp [mkBool, ih]
theorem mkBool_snoc (n : Nat) : ∀ m, mkBool m (n + 1) = mkBool m n ++ [(Int.tmod (m + 1 * (n : Int)) 3 == 0)] := by
 induction n with
 | zero => intro m; simp [mkBool]
 | succ n ih =>
  intro m
  rw [mkBool, ih (m + 1), mkBool, List.cons_append]
  have : m + 1 + 1 * (n : Int) = m + 1 * ((n + 1 : Nat) : Int) := by omega
  rw [this]
theorem markBool_loop (b : Int) (hb : 0 ≤ b) (hb2 : b ≤ 100000000) (l : List Bool) (hl : l.length ≤ 1048576) (d : Nat) : ∀ (i k : Nat), i + d = l.length → d < k →
  laws_markBoolS.l0 k (mkBool b i ++ l.drop i) (b + 1 * (i : Int)) (i : Int) = some (b + 1 * (l.length : Int), mkBool b l.length) := by
 induction d with
 | zero =>
  intro i k hi hk
  obtain ⟨k, rfl⟩ : ∃ m, k = m + 1 := ⟨k - 1, by omega⟩
  obtain rfl : i = l.length := by omega
  simp only [laws_markBoolS.l0]
  rw [if_neg (by simp [mkBool_len]), List.drop_eq_nil_of_le (by omega), List.append_nil]
 | succ d ih =>
  intro i k hi hk
  obtain ⟨k, rfl⟩ : ∃ m, k = m + 1 := ⟨k - 1, by omega⟩
  have hit : i < l.length := by omega
  have e1 : wrap64 ((i : Int) + 1) = ((i + 1 : Nat) : Int) := by rw [wrap64_id _ (by omega) (by omega)]; omega
  have q0 : wrap64 (b + 1 * (i : Int) + 1) = b + 1 * ((i + 1 : Nat) : Int) := by rw [wrap64_id _ (by omega) (by omega)]; omega
  have hd : l.drop i = l[i] :: l.drop (i + 1) := List.drop_eq_getElem_cons hit
  have hset : ∀ y z : Bool, (mkBool b i ++ y :: l.drop (i + 1)).set i z = mkBool b i ++ z :: l.drop (i + 1) := fun y z => set_mid _ _ _ _ _ (by rw [mkBool_len])
  simp only [laws_markBoolS.l0]
  rewrite [if_pos (by simp [mkBool_len]; omega), if_pos (by omega)]
  (try simp only [Option.bind_some])
  rewrite [hd, Int.toNat_natCast, hset, e1, q0]
  have := ih (i + 1) k (by omega) (by omega)
  rw [mkBool_snoc, List.append_assoc] at this
  exact this
theorem markBool_val (k : Nat) (b : Int) (hb : 0 ≤ b) (hb2 : b ≤ 100000000) (l : List Bool) (hl : l.length ≤ 1048576) (hk : l.length < k) : laws_markBoolS.f k l b = some (b + 1 * (l.length : Int), mkBool b l.length) := by
 have := markBool_loop b hb hb2 l hl l.length 0 k (by omega) hk
 unfold laws_markBoolS.f
 simpa [mkBool] using this

/-- A list of n elements, numbered on from m. -/
def mkUint64 (m : Int) : Nat → List Int
 | 0 => []
 | n + 1 => m :: mkUint64 (m + 1) n
theorem mkUint64_len (n : Nat) : ∀ m, (mkUint64 m n).length = n := by
 induction n with
 | zero => intro m; rfl
 | succ n ih => intro m; simp [mkUint64, ih]
theorem mkUint64_snoc (n : Nat) : ∀ m, mkUint64 m (n + 1) = mkUint64 m n ++ [m + 1 * (n : Int)] := by
 induction n with
 | zero => intro m; simp [mkUint64]
 | succ n ih =>
  intro m
  rw [mkUint64, ih (m + 1), mkUint64, List.cons_append]
  have : m + 1 + 1 * (n : Int) = m + 1 * ((n + 1 : Nat) : Int) := by omega
  rw [this]
theorem mkUint64_at (m : Int) (n i : Nat) (h : i < n) : rd (mkUint64 m n) (i : Int) = m + 1 * (i : Int) := by
 induction n generalizing m i with
 | zero => omega
 | succ n ih =>
  cases i with
  | zero => simp [rd, mkUint64]
  | succ i =>
   have := ih (m + 1) i (by omega)
   unfold rd at this ⊢
   rw [Int.toNat_natCast] at this ⊢
   rw [mkUint64, List.getD_cons_succ, this]
   have e : m + 1 + 1 * (i : Int) = m + 1 * ((i + 1 : Nat) : Int) := by omega
   rw [e]
theorem markUint64_loop (b : Int) (hb : 0 ≤ b) (hb2 : b ≤ 100000000) (l : List Int) (hl : l.length ≤ 1048576) (d : Nat) : ∀ (i k : Nat), i + d = l.length → d < k →
  laws_markUint64S.l0 k (mkUint64 b i ++ l.drop i) (b + 1 * (i : Int)) (i : Int) = some (b + 1 * (l.length : Int), mkUint64 b l.length) := by
 induction d with
 | zero =>
  intro i k hi hk
  obtain ⟨k, rfl⟩ : ∃ m, k = m + 1 := ⟨k - 1, by omega⟩
  obtain rfl : i = l.length := by omega
  simp only [laws_markUint64S.l0]
  rw [if_neg (by simp [mkUint64_len]), List.drop_eq_nil_of_le (by omega), List.append_nil]
 | succ d ih =>
  intro i k hi hk
  obtain ⟨k, rfl⟩ : ∃ m, k = m + 1 := ⟨k - 1, by omega⟩
  have hit : i < l.length := by omega
  have e1 : wrap64 ((i : Int) + 1) = ((i + 1 : Nat) : Int) := by rw [wrap64_id _ (by omega) (by omega)]; omega
  have q0 : wrap64 (b + 1 * (i : Int) + 1) = b + 1 * ((i + 1 : Nat) : Int) := by rw [wrap64_id _ (by omega) (by omega)]; omega
  have w0 : IntKind.u64.wrap (b + 1 * (i : Int)) = b + 1 * (i : Int) := u64_id _ (by omega) (by omega)
  have hd : l.drop i = l[i] :: l.drop (i + 1) := List.drop_eq_getElem_cons hit
  have hset : ∀ y z : Int, (mkUint64 b i ++ y :: l.drop (i + 1)).set i z = mkUint64 b i ++ z :: l.drop (i + 1) := fun y z => set_mid _ _ _ _ _ (by rw [mkUint64_len])
  simp only [laws_markUint64S.l0]
  rewrite [if_pos (by simp [mkUint64_len]; omega), if_pos (by omega)]
  (try simp only [Option.bind_some])
  rewrite [hd, Int.toNat_natCast, hset, e1, q0, w0]
  have := ih (i + 1) k (by omega) (by omega)
  rw [mkUint64_snoc, List.append_assoc] at this
  exact this
theorem markUint64_val (k : Nat) (b : Int) (hb : 0 ≤ b) (hb2 : b ≤ 100000000) (l : List Int) (hl : l.length ≤ 1048576) (hk : l.length < k) : laws_markUint64S.f k l b = some (b + 1 * (l.length : Int), mkUint64 b l.length) := by
 have := markUint64_loop b hb hb2 l hl l.length 0 k (by omega) hk
 unfold laws_markUint64S.f
 simpa [mkUint64] using this
theorem heldUint64_loop (b : Int) (hb : 0 ≤ b) (hb2 : b ≤ 100000000) (n : Nat) (hn : n ≤ 1048576) (d : Nat) : ∀ (i k : Nat), i + d = n → d < k →
  laws_heldUint64S.l0 k (mkUint64 b n) (b + 1 * (i : Int)) (i : Int) = some (b + 1 * (n : Int)) := by
 induction d with
 | zero =>
  intro i k hi hk
  obtain ⟨k, rfl⟩ : ∃ m, k = m + 1 := ⟨k - 1, by omega⟩
  obtain rfl : i = n := by omega
  simp only [laws_heldUint64S.l0]
  rw [if_neg (by rw [mkUint64_len]; omega)]
 | succ d ih =>
  intro i k hi hk
  obtain ⟨k, rfl⟩ : ∃ m, k = m + 1 := ⟨k - 1, by omega⟩
  have e1 : wrap64 ((i : Int) + 1) = ((i + 1 : Nat) : Int) := by rw [wrap64_id _ (by omega) (by omega)]; omega
  have q0 : wrap64 (b + 1 * (i : Int) + 1) = b + 1 * ((i + 1 : Nat) : Int) := by rw [wrap64_id _ (by omega) (by omega)]; omega
  have w0 : IntKind.u64.wrap (b + 1 * (i : Int)) = b + 1 * (i : Int) := u64_id _ (by omega) (by omega)
  simp only [laws_heldUint64S.l0]
  rewrite [if_pos (by rw [mkUint64_len]; omega), if_pos (by omega), mkUint64_at b n i (by omega), q0, w0]
  rewrite [if_pos (by rfl), e1]
  exact ih (i + 1) k (by omega) (by omega)
theorem heldUint64_val (k : Nat) (b : Int) (hb : 0 ≤ b) (hb2 : b ≤ 100000000) (n : Nat) (hn : n ≤ 1048576) (hk : n < k) : laws_heldUint64S.f k (mkUint64 b n) b = some (b + 1 * (n : Int)) := by
 have := heldUint64_loop b hb hb2 n hn n 0 k (by omega) hk
 unfold laws_heldUint64S.f
 simpa using this

end Go.Proofs.Ytckgeanmljmhfaa.Pure

namespace Go.Proofs.Ytckgeanmljmhfaa.Pure
open Go.RowKit Go.Proofs.Ytckgeanmljmhfaa.X Go.Proofs.YtckgeanmljmhfaaW.PrintWords Go.Proofs.YtckgeanmljmhfaaW.PrintLast Go.Proofs.YtckgeanmljmhfaaW.PrintMore Go.Proofs.Ytckgeanmljmhfaa.Bits
/-- The word of a list's first i bits. -/
def wordN (l : List Bool) : Nat → Int
 | 0 => 0
 | i + 1 => Go.bits .or .u64 (wordN l i) (shl .u64 (if rdOf false l (i : Int) = true then 1 else 0) (i : Int))
theorem word_loop (l : List Bool) (hl : l.length ≤ 9) (d : Nat) : ∀ (i k : Nat), i + d = l.length → d < k → impl_wordOf.l0 k (wordN l i) l (l.length : Int) (i : Int) = some (wordN l l.length) := by
 induction d with
 | zero =>
  intro i k hi hk
  obtain ⟨k, rfl⟩ : ∃ m, k = m + 1 := ⟨k - 1, by omega⟩
  obtain rfl : i = l.length := by omega
  simp only [impl_wordOf.l0]
  rw [if_neg (by omega)]
 | succ d ih =>
  intro i k hi hk
  obtain ⟨k, rfl⟩ : ∃ m, k = m + 1 := ⟨k - 1, by omega⟩
  have e1 : wrap64 ((i : Int) + 1) = ((i + 1 : Nat) : Int) := by rw [wrap64_id _ (by omega) (by omega)]; omega
  have et : impl_truth.f (rdOf false l (i : Int)) = some (if rdOf false l (i : Int) = true then 1 else 0) := by unfold impl_truth.f; split <;> rfl
  have h2 := ih (i + 1) k (by omega) (by omega)
  simp only [impl_wordOf.l0]
  rewrite [if_pos (by omega), if_pos (by omega), if_pos (by omega), et, e1]
  simp only [Option.bind_some]
  exact h2
theorem word_val (l : List Bool) (hl : l.length ≤ 9) : impl_wordOf.f 10 l = some (wordN l l.length) := word_loop l hl l.length 0 10 (by omega) (by omega)
theorem chWords_val (cs : List (List Bool)) (h : ∀ c ∈ cs, c.length ≤ 9) : chWords cs = some (cs.map fun c => wordN c c.length) := by
 induction cs with
 | nil => rfl
 | cons c r ih =>
  unfold chWords
  rw [word_val c (h c List.mem_cons_self), ih (fun x hx => h x (List.mem_cons_of_mem _ hx))]
  rfl
/-- The words where i bits have been laid. -/
def stf (wd : Nat) (l : List Bool) (m i : Nat) : List Int := (List.range m).map fun q => wordN ((l.drop (q * wd)).take wd) (min wd (i - q * wd))
theorem stf_len (wd : Nat) (l : List Bool) (m i : Nat) : (stf wd l m i).length = m := by unfold stf; simp
theorem stf_at (wd : Nat) (l : List Bool) (m i q : Nat) (h : q < (stf wd l m i).length) : (stf wd l m i)[q] = wordN ((l.drop (q * wd)).take wd) (min wd (i - q * wd)) := by simp [stf]
theorem stf_zero (wd : Nat) (l : List Bool) (m : Nat) : stf wd l m 0 = List.replicate m 0 := by
 unfold stf
 apply List.ext_getElem
 ·simp
 ·intro q h1 h2
  simp [wordN]
theorem stf_succ (wd : Nat) (hw : 1 ≤ wd) (l : List Bool) (m i : Nat) (hi : i < l.length) (hl : l.length = m * wd) :
  stf wd l m (i + 1) = (stf wd l m i).set (i / wd) (Go.bits .or .u64 (rd (stf wd l m i) ((i / wd : Nat) : Int)) (shl .u64 (if rdOf false l (i : Int) = true then 1 else 0) ((i % wd : Nat) : Int))) := by
 have hdm := Nat.div_add_mod i wd
 have hr := Nat.mod_lt i (show 0 < wd by omega)
 have hq : i / wd < m := by
  refine Nat.div_lt_of_lt_mul ?_
  rw [Nat.mul_comm, ← hl]
  exact hi
 obtain ⟨q0, hq0⟩ : ∃ q0, i / wd = q0 := ⟨_, rfl⟩
 obtain ⟨r, hr0⟩ : ∃ r, i % wd = r := ⟨_, rfl⟩
 rw [hq0, hr0] at hdm
 rw [hr0] at hr
 rw [hq0] at hq
 rw [hq0, hr0]
 rw [Nat.mul_comm] at hdm
 apply List.ext_getElem
 ·rw [List.length_set, stf_len, stf_len]
 ·intro q h1 h2
  rw [stf_len] at h1
  have e : rd (stf wd l m i) (q0 : Int) = wordN ((l.drop (q0 * wd)).take wd) r := by
   have h3 : q0 < (stf wd l m i).length := by rw [stf_len]; exact hq
   rw [rdUint64_at h3, stf_at]
   congr 1
   omega
  rw [List.getElem_set]
  by_cases hqq : q0 = q
  ·subst hqq
   rw [if_pos rfl, e]
   rw [stf_at, show min wd (i + 1 - q0 * wd) = r + 1 by omega, wordN]
   have h4 : rdOf false ((l.drop (q0 * wd)).take wd) (r : Int) = rdOf false l (i : Int) := by
    have h5 : r < ((l.drop (q0 * wd)).take wd).length := by rw [List.length_take, List.length_drop]; omega
    rw [rdBool_at h5, rdBool_at hi, List.getElem_take, List.getElem_drop]
    congr 1
   rw [h4]
  ·rw [if_neg hqq]
   rw [stf_at, stf_at]
   congr 1
   rcases Nat.lt_or_gt_of_ne hqq with hlt | hlt
   ·have h6 : (q0 + 1) * wd ≤ q * wd := Nat.mul_le_mul_right _ hlt
    rw [Nat.succ_mul] at h6
    omega
   ·have h6 : (q + 1) * wd ≤ q0 * wd := Nat.mul_le_mul_right _ hlt
    rw [Nat.succ_mul] at h6
    omega
theorem stf_end (wd : Nat) (l : List Bool) (m : Nat) : (chChunks wd l m).map (fun c => wordN c c.length) = stf wd l m l.length := by
 unfold chChunks stf
 rw [List.map_map]
 apply List.map_congr_left
 intro q _
 show wordN _ ((l.drop (q * wd)).take wd).length = _
 congr 1
 rw [List.length_take, List.length_drop]
theorem from_loop (wd : Nat) (hw : 1 ≤ wd) (hw4 : wd ≤ 4) (l : List Bool) (m : Nat) (hl : l.length = m * wd) (hm : m ≤ 4) (d : Nat) : ∀ (i k : Nat), i + d = l.length → d < k →
  spec_StateFrom.l0 k (wd : Int) (stf wd l m i) l (l.length : Int) (i : Int) = some (stf wd l m l.length, true) := by
 have h16 : l.length ≤ 16 := by rw [hl]; exact Nat.le_trans (Nat.mul_le_mul hm hw4) (by decide)
 induction d with
 | zero =>
  intro i k hi hk
  obtain ⟨k, rfl⟩ : ∃ m, k = m + 1 := ⟨k - 1, by omega⟩
  obtain rfl : i = l.length := by omega
  simp only [spec_StateFrom.l0]
  rw [if_neg (by omega)]
 | succ d ih =>
  intro i k hi hk
  obtain ⟨k, rfl⟩ : ∃ m, k = m + 1 := ⟨k - 1, by omega⟩
  have hit : i < l.length := by omega
  have hq : i / wd < m := by
   refine Nat.div_lt_of_lt_mul ?_
   rw [Nat.mul_comm, ← hl]
   exact hit
  have hr := Nat.mod_lt i (show 0 < wd by omega)
  have e1 : wrap64 ((i : Int) + 1) = ((i + 1 : Nat) : Int) := by rw [wrap64_id _ (by omega) (by omega)]; omega
  have e2 : Int.tdiv (i : Int) (wd : Int) = ((i / wd : Nat) : Int) := by rw [Int.tdiv_eq_ediv_of_nonneg (by omega)]; rfl
  have e3 : Int.tmod (i : Int) (wd : Int) = ((i % wd : Nat) : Int) := by rw [Int.tmod_eq_emod_of_nonneg (by omega)]; rfl
  have et : spec_l2Bool.f (rdOf false l (i : Int)) = some (if rdOf false l (i : Int) = true then 1 else 0) := by unfold spec_l2Bool.f; split <;> rfl
  have h2 := ih (i + 1) k (by omega) (by omega)
  rw [stf_succ wd hw l m i hit hl] at h2
  obtain ⟨q0, hq0⟩ : ∃ q0, i / wd = q0 := ⟨_, rfl⟩
  obtain ⟨r, hr0⟩ : ∃ r, i % wd = r := ⟨_, rfl⟩
  rw [hq0] at hq e2 h2
  rw [hr0] at hr e3 h2
  have e4 : wrap64 (q0 : Int) = (q0 : Int) := wrap64_id _ (by omega) (by omega)
  have e5 : IntKind.u64.wrap (r : Int) = (r : Int) := u64_id _ (by omega) (by omega)
  have c1 : (i : Int) < (l.length : Int) := by omega
  have c2 : (0 : Int) ≤ (i : Int) := by omega
  have c3 : ¬ (wd : Int) = 0 := by omega
  have c4 : (0 : Int) ≤ (q0 : Int) := Int.natCast_nonneg _
  have c5 : (q0 : Int) < ((stf wd l m i).length : Int) := by rw [stf_len]; exact Int.ofNat_lt.mpr hq
  have c6 : (0 : Int) ≤ (r : Int) := Int.natCast_nonneg _
  simp only [spec_StateFrom.l0]
  rewrite [e2, e3, e4, e5, if_pos c1, if_pos c2, if_pos c1, if_neg c3, if_pos c4, if_pos c5, et, e1]
  simp only [Option.bind_some]
  rewrite [if_pos c6, Int.toNat_natCast]
  exact h2
def sfR (a0 : Int) (l : List Bool) : List Int × Bool := if chGood a0 l.length = true then (stf a0.toNat l (l.length / a0.toNat) l.length, true) else ([], false)
theorem good_parts {a0 : Int} {n : Nat} (h : chGood a0 n = true) : ∃ wd m : Nat, a0 = (wd : Int) ∧ 1 ≤ wd ∧ wd ≤ 4 ∧ n = m * wd ∧ 1 ≤ m ∧ m ≤ 4 ∧ n / wd = m ∧ (n : Int) / a0 = (m : Int) ∧ (n : Int) % a0 = 0 := by
 unfold chGood at h
 simp only [Bool.and_eq_true, decide_eq_true_eq] at h
 obtain ⟨g1, g4, gm, gv1, gv4⟩ := h
 obtain ⟨wd, rfl⟩ : ∃ wd : Nat, a0 = (wd : Int) := ⟨a0.toNat, by omega⟩
 obtain ⟨m, hm⟩ : ∃ m : Nat, (m : Int) = (n : Int) / (wd : Int) := ⟨((n : Int) / (wd : Int)).toNat, by omega⟩
 have hlm : n = m * wd := by
  have h1 := Int.mul_ediv_add_emod (n : Int) (wd : Int)
  rw [gm, ← hm, Int.add_zero, Int.mul_comm] at h1
  have h2 : ((m * wd : Nat) : Int) = (n : Int) := by rw [Int.natCast_mul]; exact h1
  omega
 refine ⟨wd, m, rfl, by omega, by omega, hlm, by omega, by omega, ?_, hm.symm, gm⟩
 rw [hlm]
 exact Nat.mul_div_cancel _ (by omega)
theorem sfR_len (a0 : Int) (l : List Bool) : (sfR a0 l).1.length ≤ 4 := by
 unfold sfR
 split
 ·rename_i h
  obtain ⟨wd, m, rfl, h1, h4, hl, hm1, hm4, hd, _⟩ := good_parts h
  rw [Int.toNat_natCast, hd]
  dsimp only
  rw [stf_len]
  exact hm4
 ·simp
theorem from_impl (a0 : Int) (l : List Bool) : impl_StateFrom.f a0 l = some (sfR a0 l) := by
 unfold impl_StateFrom.f sfR
 by_cases h : chGood a0 l.length = true
 ·rw [if_pos h, if_pos h]
  obtain ⟨wd, m, rfl, h1, h4, hl, hm1, hm4, hd, _⟩ := good_parts h
  rw [Int.toNat_natCast, hd, chWords_val _ (fun c hc => by
   unfold chChunks at hc
   obtain ⟨q, _, rfl⟩ := List.mem_map.1 hc
   rw [List.length_take]; omega), stf_end wd l m]
  rfl
 ·rw [if_neg h, if_neg h]
theorem l5Wide_val (a : Int) : spec_l5Wide.f a = some (decide (1 ≤ a ∧ a ≤ 4)) := by
 unfold spec_l5Wide.f spec_l1In.f
 by_cases h : a ≥ 1
 ·rw [if_pos h]; simp only [Option.bind_some]; congr 1; exact decide_eq_decide.mpr ⟨fun h2 => ⟨h, h2⟩, fun h2 => h2.2⟩
 ·rw [if_neg h]; simp only [Option.bind_some]; rw [decide_eq_false (fun h2 => h h2.1)]
theorem from_spec (a0 : Int) (l : List Bool) (_ : l.length ≤ 1048576) (k : Nat) (hk : 100 ≤ k) : spec_StateFrom.f k a0 l = some (sfR a0 l) := by
 obtain ⟨k, rfl⟩ : ∃ m, k = m + 1 := ⟨k - 1, by omega⟩
 unfold spec_StateFrom.f sfR
 rw [l5Wide_val]
 simp only [Option.bind_some]
 by_cases hw : 1 ≤ a0 ∧ a0 ≤ 4
 ·rw [decide_eq_true hw, if_pos rfl, if_neg (by omega)]
  by_cases hm : (l.length : Int) % a0 = 0
  ·have hdiv0 : (0 : Int) ≤ (l.length : Int) / a0 := Int.ediv_nonneg (by omega) (by omega)
   have hdiv1 : (l.length : Int) / a0 ≤ (l.length : Int) := Int.ediv_le_self _ (by omega)
   have ew : wrap64 ((l.length : Int) / a0) = (l.length : Int) / a0 := wrap64_id _ (by omega) (by omega)
   rw [if_pos hm, ew]
   unfold spec_l1In.f
   by_cases h : chGood a0 l.length = true
   ·obtain ⟨wd, m, rfl, h1, h4, hlm, hm1, hm4, hd, hdi, _⟩ := good_parts h
    rw [if_pos h, Int.toNat_natCast, hd, hdi, if_pos (by omega)]
    simp only [Option.bind_some, spec_StateFrom.j0]
    rw [hdi, wrap64_id _ (by omega) (by omega), decide_eq_true (by omega), if_neg (by decide), if_neg (by omega), if_pos (by omega), if_pos (by omega), Int.toNat_natCast, ← stf_zero wd l m]
    have h16 : l.length ≤ 16 := by rw [hlm]; exact Nat.le_trans (Nat.mul_le_mul hm4 h4) (by decide)
    exact from_loop wd h1 h4 l m hlm hm4 l.length 0 k (by omega) (by omega)
   ·rw [if_neg h]
    have hno : ¬ (1 ≤ (l.length : Int) / a0 ∧ (l.length : Int) / a0 ≤ 4) := by
     intro h2
     refine h ?_
     unfold chGood
     simp only [Bool.and_eq_true, decide_eq_true_eq]
     exact ⟨hw.1, hw.2, hm, h2.1, h2.2⟩
    by_cases h1 : (l.length : Int) / a0 ≥ 1
    ·rw [if_pos h1, decide_eq_false (by omega)]
     simp only [Option.bind_some, spec_StateFrom.j0]
     rfl
    ·rw [if_neg h1]
     simp only [Option.bind_some, spec_StateFrom.j0]
     rfl
  ·have h : ¬ chGood a0 l.length = true := by
    intro h
    unfold chGood at h
    simp only [Bool.and_eq_true, decide_eq_true_eq] at h
    exact hm h.2.2.1
   rw [if_neg hm, if_neg h]
   simp only [spec_StateFrom.j0]
   rfl
 ·have h : ¬ chGood a0 l.length = true := by
   intro h
   unfold chGood at h
   simp only [Bool.and_eq_true, decide_eq_true_eq] at h
   exact hw ⟨h.1, h.2.1⟩
  rw [decide_eq_false hw, if_neg (by decide), if_neg h]
  simp only [spec_StateFrom.j0]
  rfl
theorem FnExactStateFrom : laws_FnExactStateFrom.Pure := by
 intro a0 l _ hl
 refine ⟨l.length + 1003, ?_⟩
 obtain ⟨q, hq⟩ : ∃ q, l.length + 1000 = q := ⟨_, rfl⟩
 rw [show l.length + 1003 = q + 3 by omega]
 unfold laws_FnExactStateFrom.f
 by_cases hb : (l.length : Int) > 1048576
 ·rw [if_pos hb]
 ·rewrite [if_neg hb, toBool_val _ l (by omega) (by omega)]
  simp only [Option.bind_some]
  have hr := sfR_len a0 l
  have hS := fun k hk => from_spec a0 l (by omega) k hk
  have hI := from_impl a0 l
  obtain ⟨r2, b2, hres⟩ : ∃ r2 b2, sfR a0 l = (r2, b2) := ⟨_, _, rfl⟩
  simp only [hres] at hS hI hr
  have hbb : (b2 != b2) = false := by simp
  rewrite [hS _ (by omega), hI]
  simp only [Option.bind_some]
  rewrite [eqUint64_val _ r2 (by omega) (by omega)]
  simp only [Option.bind_some, if_true, laws_FnExactStateFrom.j0, hbb, Bool.false_eq_true, if_false]
  rewrite [toBool_val _ l (by omega) (by omega)]
  simp only [Option.bind_some]
  rewrite [eqBool_val _ l (by omega) (by omega)]
  simp only [Option.bind_some, if_true]
  rewrite [markBool_val _ 1 (by omega) (by omega) l (by omega) (by omega)]
  simp only [Option.bind_some]
  rewrite [if_neg (by omega), eqUint64_val _ r2 (by omega) (by omega)]
  simp only [Option.bind_some, if_true, laws_FnExactStateFrom.j1, Bool.false_eq_true, if_false]
  rewrite [markUint64_val _ 1 (by omega) (by omega) r2 (by omega) (by omega)]
  simp only [Option.bind_some]
  rewrite [heldUint64_val _ 1 (by omega) (by omega) r2.length (by omega) (by omega)]
  simp only [Option.bind_some]
  rewrite [if_neg (by omega)]
  simp only [if_true]
  rewrite [toBool_val _ l (by omega) (by omega)]
  simp only [Option.bind_some]
  rewrite [hI]
  simp only [Option.bind_some]
  rewrite [eqUint64_val _ r2 (by omega) (by omega)]
  simp only [Option.bind_some, if_true, laws_FnExactStateFrom.j2, hbb, Bool.false_eq_true, if_false]
  rewrite [heldUint64_val _ 1 (by omega) (by omega) r2.length (by omega) (by omega)]
  simp only [Option.bind_some]
  rewrite [if_neg (by omega)]
  rfl
end Go.Proofs.Ytckgeanmljmhfaa.Pure
