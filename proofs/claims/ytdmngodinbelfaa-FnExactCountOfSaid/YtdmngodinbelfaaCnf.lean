/- The law on GoodCnf: both sides come to one plain test of the clauses. Conditions: those of the law's own Pure. -/
import Derived.Test.YtdmngodinbelfaaListsF
import Derived.Test.YtdmngodinbelfaaX1
import Derived.Test.YtdmngodinbelfaaX2
import Derived.Test.YtdmngodinbelfaaX3
import Derived.Test.YtdmngodinbelfaaX6
import Derived.Test.YtdmngodinbelfaaX8
import Derived.Test.YtdmngodinbelfaaXO
namespace Go.Proofs.Ytdmngodinbelfaa.Pure
open Go.RowKit Go.Proofs.Ytdmngodinbelfaa.X Go.Proofs.YtdmngodinbelfaaW.PrintWords Go.Proofs.YtdmngodinbelfaaW.PrintLast Go.Proofs.YtdmngodinbelfaaW.PrintMore Go.Proofs.Ytdmngodinbelfaa.Bits
theorem rdL_at {α : Type} {t : List (List α)} {i : Nat} (h : i < t.length) : t.getD ((i : Int)).toNat [] = t[i] := by
  rw [Int.toNat_natCast, List.getD_eq_getElem?_getD, List.getElem?_eq_getElem h]; rfl
theorem rdIS_at {t : List (List Int)} {i : Nat} (h : i < t.length) : rd_L1 t (i : Int) = t[i] := rdL_at h
/-- All elements of all rows. -/
def total (l : List (List Int)) : Nat := l.flatten.length
theorem total_cons (a : List Int) (l : List (List Int)) : total (a :: l) = a.length + total l := by simp [total]
theorem total_mem {a : List Int} {l : List (List Int)} (h : a ∈ l) : a.length ≤ total l := by
  induction l with
  | nil => cases h
  | cons b t ih =>
    rw [total_cons]
    rcases List.mem_cons.1 h with rfl | h
    · omega
    · have := ih h; omega
/-- Rows measured: what is left, or -1. -/
def leftS (left : Int) : List (List Int) → Int
  | [] => left
  | a :: t => if left < (a.length : Int) then -1 else leftS (left - a.length) t
theorem leftS_ok (l : List (List Int)) : ∀ left : Int, 0 ≤ left → (leftS left l = if left < (total l : Int) then -1 else left - (total l : Int)) := by
  induction l with
  | nil => intro left h; simp [leftS, total]; omega
  | cons a t ih =>
    intro left h
    rw [leftS, total_cons]
    by_cases h1 : left < (a.length : Int)
    · rw [if_pos h1, if_pos (by omega)]
    · rw [if_neg h1, ih _ (by omega)]
      by_cases h2 : left - (a.length : Int) < (total t : Int)
      · rw [if_pos h2, if_pos (by omega)]
      · rw [if_neg h2, if_neg (by omega)]; omega
theorem szSS_loop (l : List (List Int)) (hl : l.length ≤ 1048576) (hb : ∀ a ∈ l, a.length ≤ 9223372036854775807) (d : Nat) : ∀ (i k : Nat) (left : Int), i + d = l.length → d < k → 0 ≤ left → left ≤ 1048576 →
    laws_szIntSS.l0 k l left (i : Int) = some (leftS left (l.drop i)) := by
  induction d with
  | zero =>
    intro i k left hi hk h0 h1
    obtain ⟨k, rfl⟩ : ∃ m, k = m + 1 := ⟨k - 1, by omega⟩
    simp only [laws_szIntSS.l0]
    rewrite [if_neg (by omega), List.drop_eq_nil_of_le (by omega)]; rfl
  | succ d ih =>
    intro i k left hi hk h0 h1
    obtain ⟨k, rfl⟩ : ∃ m, k = m + 1 := ⟨k - 1, by omega⟩
    have hit : i < l.length := by omega
    have e1 : wrap64 ((i : Int) + 1) = ((i + 1 : Nat) : Int) := by rw [wrap64_id _ (by omega) (by omega)]; omega
    have hd : l.drop i = l[i] :: l.drop (i + 1) := List.drop_eq_getElem_cons hit
    simp only [laws_szIntSS.l0]
    rewrite [if_pos (by omega), if_pos (by omega), rdIS_at hit, szInt_val _ left h0 h1 (hb _ (List.getElem_mem hit)), hd, leftS]
    simp only [Option.bind_some]
    by_cases h2 : left < (l[i].length : Int)
    · rewrite [if_pos h2, if_pos (by decide), if_pos h2]; rfl
    · rewrite [if_neg h2, if_neg (by omega), e1, if_neg h2]
      exact ih (i + 1) k _ (by omega) (by omega) (by omega) (by omega)
/-- Whether a list of clauses is measured as small. -/
def small (l : List (List Int)) : Prop := l.length + total l ≤ 1048576
instance (l : List (List Int)) : Decidable (small l) := by unfold small; exact inferInstance
theorem szCnf_val (n : Int) (l : List (List Int)) (hl : l.length ≤ 9223372036854775807) (hb : ∀ a ∈ l, a.length ≤ 9223372036854775807) (k : Nat) (hk : small l → l.length < k) :
    small l → laws_szCnf.f k n l 1048576 = some (1048576 - (l.length : Int) - (total l : Int)) := by
  intro hs
  have hs' : l.length + total l ≤ 1048576 := hs
  unfold laws_szCnf.f laws_szIntSS.f
  rewrite [wrap64_id _ (by omega) (by omega), if_neg (by omega)]
  have := szSS_loop l (by omega) hb l.length 0 k (1048576 - (l.length : Int)) (by omega) (hk hs) (by omega) (by omega)
  rw [Int.natCast_zero, List.drop_zero, leftS_ok _ _ (by omega), if_neg (by omega)] at this
  rewrite [this]
  simp only [Option.bind_some]
  rewrite [if_neg (by omega)]
  rfl
theorem szCnf_big (n : Int) (l : List (List Int)) (hl : l.length ≤ 9223372036854775807) (hb : ∀ a ∈ l, a.length ≤ 9223372036854775807) (h : ¬ small l) : ∃ k, ∀ q, k ≤ q → laws_szCnf.f q n l 1048576 = some (-1) := by
  have hs' : ¬ (l.length + total l ≤ 1048576) := h
  refine ⟨l.length + 1, fun q hq => ?_⟩
  unfold laws_szCnf.f laws_szIntSS.f
  rewrite [wrap64_id _ (by omega) (by omega)]
  by_cases h1 : (1048576 : Int) - (l.length : Int) < 0
  · rewrite [if_pos h1]; rfl
  · rewrite [if_neg h1]
    have := szSS_loop l (by omega) hb l.length 0 q (1048576 - (l.length : Int)) (by omega) (by omega) (by omega) (by omega)
    rw [Int.natCast_zero, List.drop_zero, leftS_ok _ _ (by omega), if_pos (by omega)] at this
    rewrite [this]; rfl
theorem toSS_loop (l : List (List Int)) (hl : l.length ≤ 1048576) (ht : total l ≤ 1048576) (d : Nat) : ∀ (i k : Nat), i + d = l.length → d + total l < k →
    laws_toIntSS.l0 k l (l.take i ++ List.replicate d []) (i : Int) = some l := by
  induction d with
  | zero =>
    intro i k hi hk
    obtain ⟨k, rfl⟩ : ∃ m, k = m + 1 := ⟨k - 1, by omega⟩
    simp only [laws_toIntSS.l0]
    rewrite [if_neg (by omega), List.take_of_length_le (by omega)]; simp
  | succ d ih =>
    intro i k hi hk
    obtain ⟨k, rfl⟩ : ∃ m, k = m + 1 := ⟨k - 1, by omega⟩
    have hit : i < l.length := by omega
    have e1 : wrap64 ((i : Int) + 1) = ((i + 1 : Nat) : Int) := by rw [wrap64_id _ (by omega) (by omega)]; omega
    have hm := total_mem (List.getElem_mem hit)
    simp only [laws_toIntSS.l0]
    rewrite [if_pos (by omega), if_pos (by omega), rdIS_at hit, toInt_val k _ (by omega) (by omega)]
    simp only [Option.bind_some]
    rewrite [if_pos (by simp; omega), e1, Int.toNat_natCast, List.replicate_succ, set_mid _ _ _ _ _ (by simp; omega)]
    have h2 : l.take i ++ l[i] :: List.replicate d [] = l.take (i + 1) ++ List.replicate d [] := by
      rw [List.take_add_one, List.getElem?_eq_getElem hit, Option.toList_some, List.append_assoc]; rfl
    rewrite [h2]
    exact ih (i + 1) k (by omega) (by omega)
theorem toCnf_val (k : Nat) (n : Int) (l : List (List Int)) (h : small l) (hk : l.length + total l < k) : laws_toCnf.f k n l = some (n, l) := by
  have hs' : l.length + total l ≤ 1048576 := h
  unfold laws_toCnf.f laws_toIntSS.f
  rewrite [if_pos (by omega), Int.toNat_natCast, if_pos (by omega)]
  have := toSS_loop l (by omega) (by omega) l.length 0 k (by omega) (by omega)
  rw [List.take_zero, List.nil_append, Int.natCast_zero] at this
  rewrite [this]
  rfl
theorem eqSS_loop (l : List (List Int)) (hl : l.length ≤ 1048576) (ht : total l ≤ 1048576) (d : Nat) : ∀ (i k : Nat), i + d = l.length → d + total l < k → laws_eqIntSS.l0 k l l (i : Int) = some true := by
  induction d with
  | zero =>
    intro i k hi hk
    obtain ⟨k, rfl⟩ : ∃ m, k = m + 1 := ⟨k - 1, by omega⟩
    simp only [laws_eqIntSS.l0]
    rewrite [if_neg (by omega)]; rfl
  | succ d ih =>
    intro i k hi hk
    obtain ⟨k, rfl⟩ : ∃ m, k = m + 1 := ⟨k - 1, by omega⟩
    have hit : i < l.length := by omega
    have e1 : wrap64 ((i : Int) + 1) = ((i + 1 : Nat) : Int) := by rw [wrap64_id _ (by omega) (by omega)]; omega
    have hm := total_mem (List.getElem_mem hit)
    simp only [laws_eqIntSS.l0]
    rewrite [if_pos (by omega), if_pos (by omega), if_pos (by omega), rdIS_at hit, eqInt_val k _ (by omega) (by omega)]
    simp only [Option.bind_some]
    rewrite [if_pos trivial, e1]
    exact ih (i + 1) k (by omega) (by omega)
theorem eqCnf_val (k : Nat) (n : Int) (l : List (List Int)) (h : small l) (hk : l.length + total l < k) : laws_eqCnf.f k n l n l = some true := by
  have hs' : l.length + total l ≤ 1048576 := h
  unfold laws_eqCnf.f laws_eqIntSS.f
  rewrite [if_pos rfl, if_pos rfl]
  have := eqSS_loop l (by omega) (by omega) l.length 0 k (by omega) (by omega)
  rw [Int.natCast_zero] at this
  rewrite [this]
  rfl
/-- A literal of so many names. -/
def litB (n x : Int) : Bool := decide (x ≠ 0 ∧ -n ≤ x ∧ x ≤ n)
def clauseB (n : Int) (l : List Int) : Bool := decide (l.length ≤ 8) && l.all (litB n)
/-- A good set of clauses. -/
def cnfB (n : Int) (l : List (List Int)) : Bool := decide (0 ≤ n ∧ n ≤ 400 ∧ l.length ≤ 1400) && l.all (clauseB n)
theorem isLiteral_val (x n : Int) (h0 : 0 ≤ n) (h1 : n ≤ 400) : impl_isLiteral.f x n = some (litB n x) := by
  unfold impl_isLiteral.f litB
  rewrite [wrap64_id _ (by omega) (by omega)]
  by_cases h : x = 0
  · rewrite [if_pos h, decide_eq_false (by omega)]; rfl
  · rewrite [if_neg h]
    by_cases h2 : x ≥ -n
    · rewrite [if_pos h2]; congr 1; exact decide_eq_decide.mpr (by omega)
    · rewrite [if_neg h2, decide_eq_false (by omega)]; rfl
theorem clauseAny_val (n : Int) (h0 : 0 ≤ n) (h1 : n ≤ 400) (l : List Int) : impl_isClause_any.f l n = some (!(l.all (litB n))) := by
  unfold impl_isClause_any.f
  induction l with
  | nil => rfl
  | cons x t ih =>
    have hp : impl_isClause_any.p n x = some (!(litB n x)) := by unfold impl_isClause_any.p; rw [isLiteral_val x n h0 h1]; rfl
    unfold impl_isClause_any.any
    rewrite [hp]
    simp only [Option.bind_some]
    rewrite [List.all_cons]
    cases hb : litB n x with
    | false => rfl
    | true => rewrite [if_neg (by decide), ih]; rfl
theorem isClause_val (n : Int) (h0 : 0 ≤ n) (h1 : n ≤ 400) (l : List Int) : impl_isClause.f l n = some (clauseB n l) := by
  unfold impl_isClause.f clauseB
  by_cases h : (l.length : Int) ≤ 8
  · rewrite [if_pos h, clauseAny_val n h0 h1, decide_eq_true (show l.length ≤ 8 by omega)]
    simp only [Option.bind_some, Bool.not_not, Bool.true_and]
  · rewrite [if_neg h, decide_eq_false (show ¬ l.length ≤ 8 by omega)]; rfl
theorem implCnf_val (n : Int) (l : List (List Int)) : impl_GoodCnf.f n l = some (cnfB n l) := by
  unfold impl_GoodCnf.f cnfB
  by_cases h0 : n < 0
  · rewrite [if_pos h0, decide_eq_false (by omega)]; rfl
  · rewrite [if_neg h0]
    by_cases h1 : n > 400
    · rewrite [if_pos h1, decide_eq_false (by omega)]; rfl
    · rewrite [if_neg h1]
      by_cases h2 : (l.length : Int) > 1400
      · rewrite [if_pos h2, decide_eq_false (by omega)]; rfl
      · rewrite [if_neg h2, decide_eq_true (by omega)]
        have hany : impl_GoodCnf_any.f l n = some (!(l.all (clauseB n))) := by
          unfold impl_GoodCnf_any.f
          clear h2
          induction l with
          | nil => rfl
          | cons x t ih =>
            have hp : impl_GoodCnf_any.p n x = some (!(clauseB n x)) := by unfold impl_GoodCnf_any.p; rw [isClause_val n (by omega) (by omega) x]; rfl
            unfold impl_GoodCnf_any.any
            rewrite [hp]
            simp only [Option.bind_some]
            rewrite [List.all_cons]
            cases hb : clauseB n x with
            | false => rfl
            | true => rewrite [if_neg (by decide), ih]; rfl
        rewrite [hany]
        simp only [Option.bind_some, Bool.not_not, Bool.true_and]
theorem l1In_lit (x n : Int) (h0 : 0 ≤ n) (h1 : n ≤ 400) : spec_l1In.f x (wrap64 (-n)) n = some (decide (-n ≤ x ∧ x ≤ n)) := by
  unfold spec_l1In.f
  rewrite [wrap64_id _ (by omega) (by omega)]
  by_cases h : x ≥ -n
  · rewrite [if_pos h]; congr 1; exact decide_eq_decide.mpr (by omega)
  · rewrite [if_neg h, decide_eq_false (by omega)]; rfl
theorem specClause_loop (n : Int) (h0 : 0 ≤ n) (h1 : n ≤ 400) (l : List Int) (hl : l.length ≤ 8) (d : Nat) : ∀ (i k : Nat), i + d = l.length → d < k → spec_l6Clause.l0 k n l (l.length : Int) (i : Int) = some ((l.drop i).all (litB n)) := by
  induction d with
  | zero =>
    intro i k hi hk
    obtain ⟨k, rfl⟩ : ∃ m, k = m + 1 := ⟨k - 1, by omega⟩
    simp only [spec_l6Clause.l0]
    rewrite [if_neg (by omega), List.drop_eq_nil_of_le (by omega)]; rfl
  | succ d ih =>
    intro i k hi hk
    obtain ⟨k, rfl⟩ : ∃ m, k = m + 1 := ⟨k - 1, by omega⟩
    have hit : i < l.length := by omega
    have e1 : wrap64 ((i : Int) + 1) = ((i + 1 : Nat) : Int) := by rw [wrap64_id _ (by omega) (by omega)]; omega
    have hd : l.drop i = l[i] :: l.drop (i + 1) := List.drop_eq_getElem_cons hit
    simp only [spec_l6Clause.l0]
    rewrite [if_pos (by omega), if_pos (by omega), if_pos (by omega), rdInt_at hit, hd, List.all_cons]
    by_cases h2 : l[i] = 0
    · have e : litB n l[i] = false := decide_eq_false (by omega)
      rewrite [if_pos h2, e]; rfl
    · rewrite [if_neg h2, l1In_lit _ n h0 h1]
      simp only [Option.bind_some, decide_eq_true_eq]
      by_cases h3 : -n ≤ l[i] ∧ l[i] ≤ n
      · have e : litB n l[i] = true := decide_eq_true ⟨h2, h3.1, h3.2⟩
        rewrite [if_pos h3, e1, ih (i + 1) k (by omega) (by omega), e]; rfl
      · have e : litB n l[i] = false := decide_eq_false (by omega)
        rewrite [if_neg h3, e]; rfl
theorem specClause_val (n : Int) (h0 : 0 ≤ n) (h1 : n ≤ 400) (l : List Int) (k : Nat) (hk : 10 < k) : spec_l6Clause.f k n l = some (clauseB n l) := by
  unfold spec_l6Clause.f clauseB
  by_cases h : (l.length : Int) > 8
  · rewrite [if_pos h, decide_eq_false (show ¬ l.length ≤ 8 by omega)]; rfl
  · have := specClause_loop n h0 h1 l (by omega) l.length 0 k (by omega) (by omega)
    rw [Int.natCast_zero, List.drop_zero] at this
    rewrite [if_neg h, decide_eq_true (show l.length ≤ 8 by omega), this]; rfl
theorem specCnf_loop (n : Int) (h0 : 0 ≤ n) (h1 : n ≤ 400) (l : List (List Int)) (hl : l.length ≤ 1400) (d : Nat) : ∀ (i k : Nat), i + d = l.length → d + 20 < k → spec_GoodCnf.l0 k l (l.length : Int) (i : Int) n l = some ((l.drop i).all (clauseB n)) := by
  induction d with
  | zero =>
    intro i k hi hk
    obtain ⟨k, rfl⟩ : ∃ m, k = m + 1 := ⟨k - 1, by omega⟩
    simp only [spec_GoodCnf.l0]
    rewrite [if_neg (by omega), List.drop_eq_nil_of_le (by omega)]; rfl
  | succ d ih =>
    intro i k hi hk
    obtain ⟨k, rfl⟩ : ∃ m, k = m + 1 := ⟨k - 1, by omega⟩
    have hit : i < l.length := by omega
    have e1 : wrap64 ((i : Int) + 1) = ((i + 1 : Nat) : Int) := by rw [wrap64_id _ (by omega) (by omega)]; omega
    have hd : l.drop i = l[i] :: l.drop (i + 1) := List.drop_eq_getElem_cons hit
    simp only [spec_GoodCnf.l0]
    rewrite [if_pos (by omega), if_pos (by omega), if_pos (by omega), rdIS_at hit, specClause_val n h0 h1 _ k (by omega), hd, List.all_cons]
    simp only [Option.bind_some]
    cases hb : clauseB n l[i] with
    | false => rewrite [if_neg (by decide)]; rfl
    | true => rewrite [if_pos rfl, e1, ih (i + 1) k (by omega) (by omega)]; rfl
theorem specCnf_val (n : Int) (l : List (List Int)) (k : Nat) (hk : 1500 < k) : spec_GoodCnf.f k n l = some (cnfB n l) := by
  obtain ⟨k, rfl⟩ : ∃ m, k = m + 1 := ⟨k - 1, by omega⟩
  unfold spec_GoodCnf.f spec_l1In.f cnfB
  by_cases h0 : n ≥ 0
  · rewrite [if_pos h0]
    simp only [Option.bind_some, decide_eq_true_eq]
    by_cases h1 : n ≤ 400
    · rewrite [if_pos h1]
      simp only [spec_GoodCnf.j0, decide_eq_true_eq]
      by_cases h2 : (l.length : Int) > 1400
      · rewrite [if_pos h2, decide_eq_false (show ¬ (0 ≤ n ∧ n ≤ 400 ∧ l.length ≤ 1400) by omega)]; rfl
      · have := specCnf_loop n h0 h1 l (by omega) l.length 0 k (by omega) (by omega)
        rw [Int.natCast_zero, List.drop_zero] at this
        rewrite [if_neg h2, decide_eq_true (show 0 ≤ n ∧ n ≤ 400 ∧ l.length ≤ 1400 by omega), this]; rfl
    · rewrite [if_neg h1, decide_eq_false (show ¬ (0 ≤ n ∧ n ≤ 400 ∧ l.length ≤ 1400) by omega)]
      simp only [spec_GoodCnf.j0]; rfl
  · rewrite [if_neg h0, decide_eq_false (show ¬ (0 ≤ n ∧ n ≤ 400 ∧ l.length ≤ 1400) by omega)]
    simp only [Option.bind_some, spec_GoodCnf.j0]; rfl
end Go.Proofs.Ytdmngodinbelfaa.Pure
