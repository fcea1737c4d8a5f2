/- Bits of 64-bit words as the model tells them: and, or, xor, shifts and masks as remainders and powers of two. No condition. The laws' own list functions (copying, comparing, measuring, writing over, looking again) come to plain lists. Conditions: lists no longer than 2^20. Written by wip/xp/lists.py. The laws' own list functions (copying, comparing, measuring, writing over, looking again) come to plain lists. Conditions: lists no longer than 2^20. Written by wip/xp/lists.py. The law on ResolveOn: both sides come to the numbers of both clauses but the name and its negation, each once, in the literals' order. Conditions: those of the law's own Pure. -/
import Derived.Test.YtdmngodinbelfaaWMore
import Derived.Laws.BitsLemmas
import Derived.Test.YtdmngodinbelfaaXO
import Derived.Test.YtdmngodinbelfaaX1
import Derived.Test.YtdmngodinbelfaaX22
import Derived.Test.YtdmngodinbelfaaX26
import Derived.Test.YtdmngodinbelfaaX27
import Derived.Test.YtdmngodinbelfaaX29
namespace Go.Proofs.Ytdmngodinbelfaa.Bits
open Go.RowKit Go.Proofs.YtdmngodinbelfaaW.PrintWords

theorem wrap64_id (n : Int) (h0 : -9223372036854775808 ≤ n) (h1 : n ≤ 9223372036854775807) : wrap64 n = n := by unfold wrap64; omega

/-- The words of a width. -/
def word (w a : Int) : Prop := 1 ≤ w ∧ w ≤ 64 ∧ 0 ≤ a ∧ a < 2 ^ w.toNat
instance (w a : Int) : Decidable (word w a) := by unfold word; infer_instance
end Go.Proofs.Ytdmngodinbelfaa.Bits

namespace Go.Proofs.Ytdmngodinbelfaa.Pure
open Go.RowKit Go.Proofs.Ytdmngodinbelfaa.X Go.Proofs.YtdmngodinbelfaaW.PrintWords Go.Proofs.YtdmngodinbelfaaW.PrintLast Go.Proofs.YtdmngodinbelfaaW.PrintMore Go.Proofs.Ytdmngodinbelfaa.Bits
theorem set_mid {α : Type} (a b : List α) (x y : α) (n : Nat) (h : n = a.length) : (a ++ x :: b).set n y = a ++ y :: b := by
 subst h; simp
theorem rdInt_at {t : List Int} {i : Nat} (h : i < t.length) : rd t (i : Int) = t[i] := by
 unfold rd
 rw [Int.toNat_natCast, List.getD_eq_getElem?_getD, List.getElem?_eq_getElem h]; rfl
theorem toInt_loop (l : List Int) (hl : l.length ≤ 1048576) (d : Nat) : ∀ (i : Nat) (k : Nat), i + d = l.length → d < k →
  laws_toIntS.l0 k l ((l.take i) ++ List.replicate d 0) (i : Int) = some (l) := by
 induction d with
 | zero =>
  intro i k hi hk
  obtain ⟨k, rfl⟩ : ∃ m, k = m + 1 := ⟨k - 1, by omega⟩
  simp only [laws_toIntS.l0]
  rw [if_neg (by omega), List.take_of_length_le (by omega)]
  simp
 | succ d ih =>
  intro i k hi hk
  obtain ⟨k, rfl⟩ : ∃ m, k = m + 1 := ⟨k - 1, by omega⟩
  have hit : i < l.length := by omega
  have e1 : wrap64 ((i : Int) + 1) = ((i + 1 : Nat) : Int) := by rw [wrap64_id _ (by omega) (by omega)]; omega
  simp only [laws_toIntS.l0]
  rewrite [if_pos (by omega), if_pos (by omega)]
  rewrite [if_pos (by simp; omega), rdInt_at hit, e1, Int.toNat_natCast, List.replicate_succ, set_mid _ _ _ _ _ (by simp; omega)]
  have h2 : (l.take i) ++ l[i] :: List.replicate d 0 = (l.take (i + 1)) ++ List.replicate d 0 := by
   rw [List.take_add_one, List.getElem?_eq_getElem hit, Option.toList_some, List.append_assoc]
   rfl
  rewrite [h2]
  exact ih (i + 1) k (by omega) (by omega)
theorem toInt_val (k : Nat) (l : List Int) (hl : l.length ≤ 1048576) (hk : l.length < k) : laws_toIntS.f k l = some (l) := by
 unfold laws_toIntS.f
 rw [if_pos (by omega), Int.toNat_natCast, if_pos (by omega)]
 have := toInt_loop l hl l.length 0 k (by omega) hk
 simpa using this
theorem eqInt_loop (l : List Int) (hl : l.length ≤ 1048576) (d : Nat) : ∀ (i : Nat) (k : Nat), i + d = l.length → d < k → laws_eqIntS.l0 k l l (i : Int) = some true := by
 induction d with
 | zero =>
  intro i k hi hk
  obtain ⟨k, rfl⟩ : ∃ m, k = m + 1 := ⟨k - 1, by omega⟩
  simp only [laws_eqIntS.l0]
  rw [if_neg (by omega)]
 | succ d ih =>
  intro i k hi hk
  obtain ⟨k, rfl⟩ : ∃ m, k = m + 1 := ⟨k - 1, by omega⟩
  have e1 : wrap64 ((i : Int) + 1) = ((i + 1 : Nat) : Int) := by rw [wrap64_id _ (by omega) (by omega)]; omega
  simp only [laws_eqIntS.l0]
  rewrite [if_pos (by omega), if_pos (by omega), if_pos (by omega)]
  rewrite [if_pos trivial]
  rewrite [e1]
  exact ih (i + 1) k (by omega) (by omega)
theorem eqInt_val (k : Nat) (l : List Int) (hl : l.length ≤ 1048576) (hk : l.length < k) : laws_eqIntS.f k l l = some true := by
 unfold laws_eqIntS.f
 rw [if_pos rfl]
 exact eqInt_loop l hl l.length 0 k (by omega) hk

end Go.Proofs.Ytdmngodinbelfaa.Pure

namespace Go.Proofs.Ytdmngodinbelfaa.Pure
open Go.RowKit Go.Proofs.Ytdmngodinbelfaa.X Go.Proofs.YtdmngodinbelfaaW.PrintWords Go.Proofs.YtdmngodinbelfaaW.PrintLast Go.Proofs.YtdmngodinbelfaaW.PrintMore Go.Proofs.Ytdmngodinbelfaa.Bits
/-- A list of n elements, numbered on from m. -/
def mkInt (m : Int) : Nat → List Int
 | 0 => []
 | n + 1 => m :: mkInt (m + 1) n
theorem mkInt_len (n : Nat) : ∀ m, (mkInt m n).length = n := by
 induction n with
 | zero => intro m; rfl
 | succ n ih => intro m; simp [mkInt, ih]
theorem mkInt_snoc (n : Nat) : ∀ m, mkInt m (n + 1) = mkInt m n ++ [m + 1 * (n : Int)] := by
 induction n with
 | zero => intro m; simp [mkInt]
 | succ n ih =>
  intro m
  rw [mkInt, ih (m + 1), mkInt, List.cons_append]
  have : m + 1 + 1 * (n : Int) = m + 1 * ((n + 1 : Nat) : Int) := by omega
  rw [this]
theorem mkInt_at (m : Int) (n i : Nat) (h : i < n) : rd (mkInt m n) (i : Int) = m + 1 * (i : Int) := by
 induction n generalizing m i with
 | zero => omega
 | succ n ih =>
  cases i with
  | zero => simp [rd, mkInt]
  | succ i =>
   have := ih (m + 1) i (by omega)
   unfold rd at this ⊢
   rw [Int.toNat_natCast] at this ⊢
   rw [mkInt, List.getD_cons_succ, this]
   have e : m + 1 + 1 * (i : Int) = m + 1 * ((i + 1 : Nat) : Int) := by omega
   rw [e]
theorem markInt_loop (b : Int) (hb : 0 ≤ b) (hb2 : b ≤ 100000000) (l : List Int) (hl : l.length ≤ 1048576) (d : Nat) : ∀ (i k : Nat), i + d = l.length → d < k →
  laws_markIntS.l0 k (mkInt b i ++ l.drop i) (b + 1 * (i : Int)) (i : Int) = some (b + 1 * (l.length : Int), mkInt b l.length) := by
 induction d with
 | zero =>
  intro i k hi hk
  obtain ⟨k, rfl⟩ : ∃ m, k = m + 1 := ⟨k - 1, by omega⟩
  obtain rfl : i = l.length := by omega
  simp only [laws_markIntS.l0]
  rw [if_neg (by simp [mkInt_len]), List.drop_eq_nil_of_le (by omega), List.append_nil]
 | succ d ih =>
  intro i k hi hk
  obtain ⟨k, rfl⟩ : ∃ m, k = m + 1 := ⟨k - 1, by omega⟩
  have hit : i < l.length := by omega
  have e1 : wrap64 ((i : Int) + 1) = ((i + 1 : Nat) : Int) := by rw [wrap64_id _ (by omega) (by omega)]; omega
  have q0 : wrap64 (b + 1 * (i : Int) + 1) = b + 1 * ((i + 1 : Nat) : Int) := by rw [wrap64_id _ (by omega) (by omega)]; omega
  have hd : l.drop i = l[i] :: l.drop (i + 1) := List.drop_eq_getElem_cons hit
  have hset : ∀ y z : Int, (mkInt b i ++ y :: l.drop (i + 1)).set i z = mkInt b i ++ z :: l.drop (i + 1) := fun y z => set_mid _ _ _ _ _ (by rw [mkInt_len])
  simp only [laws_markIntS.l0]
  rewrite [if_pos (by simp [mkInt_len]; omega), if_pos (by omega)]
  (try simp only [Option.bind_some])
  rewrite [hd, Int.toNat_natCast, hset, e1, q0]
  have := ih (i + 1) k (by omega) (by omega)
  rw [mkInt_snoc, List.append_assoc] at this
  exact this
theorem markInt_val (k : Nat) (b : Int) (hb : 0 ≤ b) (hb2 : b ≤ 100000000) (l : List Int) (hl : l.length ≤ 1048576) (hk : l.length < k) : laws_markIntS.f k l b = some (b + 1 * (l.length : Int), mkInt b l.length) := by
 have := markInt_loop b hb hb2 l hl l.length 0 k (by omega) hk
 unfold laws_markIntS.f
 simpa [mkInt] using this
theorem heldInt_loop (b : Int) (hb : 0 ≤ b) (hb2 : b ≤ 100000000) (n : Nat) (hn : n ≤ 1048576) (d : Nat) : ∀ (i k : Nat), i + d = n → d < k →
  laws_heldIntS.l0 k (mkInt b n) (b + 1 * (i : Int)) (i : Int) = some (b + 1 * (n : Int)) := by
 induction d with
 | zero =>
  intro i k hi hk
  obtain ⟨k, rfl⟩ : ∃ m, k = m + 1 := ⟨k - 1, by omega⟩
  obtain rfl : i = n := by omega
  simp only [laws_heldIntS.l0]
  rw [if_neg (by rw [mkInt_len]; omega)]
 | succ d ih =>
  intro i k hi hk
  obtain ⟨k, rfl⟩ : ∃ m, k = m + 1 := ⟨k - 1, by omega⟩
  have e1 : wrap64 ((i : Int) + 1) = ((i + 1 : Nat) : Int) := by rw [wrap64_id _ (by omega) (by omega)]; omega
  have q0 : wrap64 (b + 1 * (i : Int) + 1) = b + 1 * ((i + 1 : Nat) : Int) := by rw [wrap64_id _ (by omega) (by omega)]; omega
  simp only [laws_heldIntS.l0]
  rewrite [if_pos (by rw [mkInt_len]; omega), if_pos (by omega), mkInt_at b n i (by omega), q0]
  rewrite [if_pos (by rfl), e1]
  exact ih (i + 1) k (by omega) (by omega)
theorem heldInt_val (k : Nat) (b : Int) (hb : 0 ≤ b) (hb2 : b ≤ 100000000) (n : Nat) (hn : n ≤ 1048576) (hk : n < k) : laws_heldIntS.f k (mkInt b n) b = some (b + 1 * (n : Int)) := by
 have := heldInt_loop b hb hb2 n hn n 0 k (by omega) hk
 unfold laws_heldIntS.f
 simpa using this

end Go.Proofs.Ytdmngodinbelfaa.Pure

namespace Go.Proofs.Ytdmngodinbelfaa.Pure
open Go.RowKit Go.Proofs.Ytdmngodinbelfaa.X Go.Proofs.YtdmngodinbelfaaW.PrintWords Go.Proofs.YtdmngodinbelfaaW.PrintLast Go.Proofs.YtdmngodinbelfaaW.PrintMore Go.Proofs.Ytdmngodinbelfaa.Bits
/-- A literal of so many names. -/
def litB (n x : Int) : Bool := decide (x ≠ 0 ∧ -n ≤ x ∧ x ≤ n)
def clauseB (n : Int) (l : List Int) : Bool := decide (l.length ≤ 8) && l.all (litB n)
theorem isLiteral_val (x n : Int) (h0 : 0 ≤ n) (h1 : n ≤ 400) : impl_isLiteral.f x n = some (litB n x) := by
 unfold impl_isLiteral.f litB
 rewrite [wrap64_id _ (by omega) (by omega)]
 by_cases h : x = 0
 ·rewrite [if_pos h, decide_eq_false (by omega)]; rfl
 ·rewrite [if_neg h]
  by_cases h2 : x ≥ -n
  ·rewrite [if_pos h2]; congr 1; exact decide_eq_decide.mpr (by omega)
  ·rewrite [if_neg h2, decide_eq_false (by omega)]; rfl
theorem clauseAny_val (n : Int) (h0 : 0 ≤ n) (h1 : n ≤ 400) (l : List Int) : impl_isClause_any.f l n = some (!(l.all (litB n))) := by
 unfold impl_isClause_any.f
 induction l with
 | nil => rfl
 | cons x t ih =>
  have hp : impl_isClause_any.p n x = some (!(litB n x)) := by unfold impl_isClause_any.p; rw [isLiteral_val x n h0 h1]; rfl
  unfold impl_isClause_any.any
  rewrite [hp]
  simp only [Option.bind_some]
  rewrite [List.all_cons]
  cases hb : litB n x with
  | false => rfl
  | true => rewrite [if_neg (by decide), ih]; rfl
theorem isClause_val (n : Int) (h0 : 0 ≤ n) (h1 : n ≤ 400) (l : List Int) : impl_isClause.f l n = some (clauseB n l) := by
 unfold impl_isClause.f clauseB
 by_cases h : (l.length : Int) ≤ 8
 ·rewrite [if_pos h, clauseAny_val n h0 h1, decide_eq_true (show l.length ≤ 8 by omega)]
  simp only [Option.bind_some, Bool.not_not, Bool.true_and]
 ·rewrite [if_neg h, decide_eq_false (show ¬ l.length ≤ 8 by omega)]; rfl
theorem l1In_lit (x n : Int) (h0 : 0 ≤ n) (h1 : n ≤ 400) : spec_l1In.f x (wrap64 (-n)) n = some (decide (-n ≤ x ∧ x ≤ n)) := by
 unfold spec_l1In.f
 rewrite [wrap64_id _ (by omega) (by omega)]
 by_cases h : x ≥ -n
 ·rewrite [if_pos h]; congr 1; exact decide_eq_decide.mpr (by omega)
 ·rewrite [if_neg h, decide_eq_false (by omega)]; rfl
theorem specClause_loop (n : Int) (h0 : 0 ≤ n) (h1 : n ≤ 400) (l : List Int) (hl : l.length ≤ 8) (d : Nat) : ∀ (i k : Nat), i + d = l.length → d < k → spec_l6Clause.l0 k n l (l.length : Int) (i : Int) = some ((l.drop i).all (litB n)) := by
 induction d with
 | zero =>
  intro i k hi hk
  obtain ⟨k, rfl⟩ : ∃ m, k = m + 1 := ⟨k - 1, by omega⟩
  simp only [spec_l6Clause.l0]
  rewrite [if_neg (by omega), List.drop_eq_nil_of_le (by omega)]; rfl
 | succ d ih =>
  intro i k hi hk
  obtain ⟨k, rfl⟩ : ∃ m, k = m + 1 := ⟨k - 1, by omega⟩
  have hit : i < l.length := by omega
  have e1 : wrap64 ((i : Int) + 1) = ((i + 1 : Nat) : Int) := by rw [wrap64_id _ (by omega) (by omega)]; omega
  have hd : l.drop i = l[i] :: l.drop (i + 1) := List.drop_eq_getElem_cons hit
  simp only [spec_l6Clause.l0]
  rewrite [if_pos (by omega), if_pos (by omega), if_pos (by omega), rdInt_at hit, hd, List.all_cons]
  by_cases h2 : l[i] = 0
  ·have e : litB n l[i] = false := decide_eq_false (by omega)
   rewrite [if_pos h2, e]; rfl
  ·rewrite [if_neg h2, l1In_lit _ n h0 h1]
   simp only [Option.bind_some, decide_eq_true_eq]
   by_cases h3 : -n ≤ l[i] ∧ l[i] ≤ n
   ·have e : litB n l[i] = true := decide_eq_true ⟨h2, h3.1, h3.2⟩
    rewrite [if_pos h3, e1, ih (i + 1) k (by omega) (by omega), e]; rfl
   ·have e : litB n l[i] = false := decide_eq_false (by omega)
    rewrite [if_neg h3, e]; rfl
theorem specClause_val (n : Int) (h0 : 0 ≤ n) (h1 : n ≤ 400) (l : List Int) (k : Nat) (hk : 10 < k) : spec_l6Clause.f k n l = some (clauseB n l) := by
 unfold spec_l6Clause.f clauseB
 by_cases h : (l.length : Int) > 8
 ·rewrite [if_pos h, decide_eq_false (show ¬ l.length ≤ 8 by omega)]; rfl
 ·have := specClause_loop n h0 h1 l (by omega) l.length 0 k (by omega) (by omega)
  rw [Int.natCast_zero, List.drop_zero] at this
  rewrite [if_neg h, decide_eq_true (show l.length ≤ 8 by omega), this]; rfl
theorem has_loop (x : Int) (l : List Int) (hl : l.length ≤ 1000) (d : Nat) : ∀ (i k : Nat), i + d = l.length → d < k → spec_l1Has.l0 k x l (l.length : Int) (i : Int) = some (decide (x ∈ l.drop i)) := by
 induction d with
 | zero =>
  intro i k hi hk
  obtain ⟨k, rfl⟩ : ∃ m, k = m + 1 := ⟨k - 1, by omega⟩
  simp only [spec_l1Has.l0]
  rw [if_neg (by omega), List.drop_eq_nil_of_le (by omega)]; rfl
 | succ d ih =>
  intro i k hi hk
  obtain ⟨k, rfl⟩ : ∃ m, k = m + 1 := ⟨k - 1, by omega⟩
  have hit : i < l.length := by omega
  have e1 : wrap64 ((i : Int) + 1) = ((i + 1 : Nat) : Int) := by rw [wrap64_id _ (by omega) (by omega)]; omega
  have hd : l.drop i = l[i] :: l.drop (i + 1) := List.drop_eq_getElem_cons hit
  simp only [spec_l1Has.l0]
  rewrite [if_pos (by omega), if_pos (by omega), if_pos (by omega), rdInt_at hit, e1, hd]
  by_cases hx : l[i] = x
  ·rewrite [if_pos hx, decide_eq_true (by rw [hx]; exact List.mem_cons_self)]; rfl
  ·rewrite [if_neg hx, ih (i + 1) k (by omega) (by omega)]
   congr 1
   exact decide_eq_decide.mpr ⟨fun h => List.mem_cons_of_mem _ h, fun h => (List.mem_cons.1 h).resolve_left (fun e => hx e.symm)⟩
theorem has_val (l : List Int) (hl : l.length ≤ 1000) (x : Int) (k : Nat) (hk : l.length < k) : spec_l1Has.f k l x = some (decide (x ∈ l)) := by
 unfold spec_l1Has.f
 exact has_loop x l hl l.length 0 k (by omega) hk
theorem index_loop (x : Int) (l : List Int) (hl : l.length ≤ 1000) (d : Nat) : ∀ (i k : Nat), i + d = l.length → d < k → ∃ r : Int, slices_Index_int.l0 k l x (l.length : Int) (i : Int) = some r ∧ decide (r ≥ 0) = decide (x ∈ l.drop i) := by
 induction d with
 | zero =>
  intro i k hi hk
  obtain ⟨k, rfl⟩ : ∃ m, k = m + 1 := ⟨k - 1, by omega⟩
  simp only [slices_Index_int.l0]
  rw [if_neg (by omega), List.drop_eq_nil_of_le (by omega)]
  exact ⟨_, rfl, rfl⟩
 | succ d ih =>
  intro i k hi hk
  obtain ⟨k, rfl⟩ : ∃ m, k = m + 1 := ⟨k - 1, by omega⟩
  have hit : i < l.length := by omega
  have e1 : wrap64 ((i : Int) + 1) = ((i + 1 : Nat) : Int) := by rw [wrap64_id _ (by omega) (by omega)]; omega
  have hd : l.drop i = l[i] :: l.drop (i + 1) := List.drop_eq_getElem_cons hit
  simp only [slices_Index_int.l0]
  rewrite [if_pos (by omega), if_pos (by omega), if_pos (by omega), rdInt_at hit, e1, hd]
  by_cases hx : x = l[i]
  ·rewrite [if_pos hx]
   refine ⟨_, rfl, ?_⟩
   rw [decide_eq_true (show (i : Int) ≥ 0 by omega), decide_eq_true (show x ∈ l[i] :: l.drop (i + 1) by rw [hx]; exact List.mem_cons_self)]
  ·rewrite [if_neg hx]
   obtain ⟨r, h1, h2⟩ := ih (i + 1) k (by omega) (by omega)
   refine ⟨r, h1, h2.trans ?_⟩
   exact decide_eq_decide.mpr ⟨fun h => List.mem_cons_of_mem _ h, fun h => (List.mem_cons.1 h).resolve_left hx⟩
theorem contains_val (l : List Int) (hl : l.length ≤ 1000) (x : Int) (k : Nat) (hk : l.length < k) : slices_Contains_int.f k l x = some (decide (x ∈ l)) := by
 unfold slices_Contains_int.f slices_Index_int.f
 obtain ⟨r, h1, h2⟩ := index_loop x l hl l.length 0 k (by omega) hk
 rw [Int.natCast_zero] at h1
 rw [h1]
 simp only [Option.bind_some]
 rw [h2, List.drop_zero]
def before (x y : Int) : Prop := litLt x y = true
theorem before_iff (x y : Int) : before x y ↔ (litKey x < litKey y ∨ (litKey x = litKey y ∧ x < y)) := by
 unfold before litLt; exact decide_eq_true_iff
theorem before_trans {x y z : Int} (h1 : before x y) (h2 : before y z) : before x z := by rw [before_iff] at *; omega
theorem before_irrefl (x : Int) : ¬ before x x := by rw [before_iff]; omega
theorem rising_eq : ∀ (a b : List Int), a.Pairwise before → b.Pairwise before → (∀ z, z ∈ a ↔ z ∈ b) → a = b
 | [], [], _, _, _ => rfl
 | [], x :: b, _, _, h => absurd ((h x).2 List.mem_cons_self) (by simp)
 | x :: a, [], _, _, h => absurd ((h x).1 List.mem_cons_self) (by simp)
 | x :: a, y :: b, ha, hb, h => by
  obtain ⟨a1, a2⟩ := List.pairwise_cons.1 ha
  obtain ⟨b1, b2⟩ := List.pairwise_cons.1 hb
  have hxy : x = y := by
   rcases List.mem_cons.1 ((h x).1 List.mem_cons_self) with h1 | h1
   ·exact h1
   ·rcases List.mem_cons.1 ((h y).2 List.mem_cons_self) with h2 | h2
    ·exact h2.symm
    ·exact absurd (before_trans (a1 y h2) (b1 x h1)) (before_irrefl x)
  subst hxy
  congr 1
  refine rising_eq a b a2 b2 fun z => ⟨fun hz => ?_, fun hz => ?_⟩
  ·rcases List.mem_cons.1 ((h z).1 (List.mem_cons_of_mem _ hz)) with h1 | h1
   ·subst h1; exact absurd (a1 _ hz) (before_irrefl _)
   ·exact h1
  ·rcases List.mem_cons.1 ((h z).2 (List.mem_cons_of_mem _ hz)) with h1 | h1
   ·subst h1; exact absurd (b1 _ hz) (before_irrefl _)
   ·exact h1
theorem le_iff (x y : Int) : litLe x y = true ↔ ¬ before y x := by
 unfold litLe before; cases litLt y x <;> simp
theorem before_of {x y : Int} (h : litLe x y = true) (hn : y ≠ x) : before x y := by
 rw [le_iff, before_iff] at h; rw [before_iff]; omega
theorem before_le {x y z : Int} (h : litLe x y = true) (h2 : before y z) : before x z := by
 rw [le_iff, before_iff] at h; rw [before_iff] at *; omega
theorem compact_sortedL (d : Array Int) (hs : ∀ i j, i ≤ j → j < d.size → litLe d[i]! d[j]! = true) (m : Nat) (hm : m ≤ d.size) : (Lib.compactUpTo d m).Pairwise before ∧ ∀ x, x ∈ Lib.compactUpTo d m ↔ ∃ j, j < m ∧ d[j]! = x := by
 induction m with
 | zero => exact ⟨by simp [Lib.compactUpTo], fun x => by simp [Lib.compactUpTo]⟩
 | succ m ih =>
  obtain ⟨h1, h2⟩ := ih (by omega)
  rw [Lib.compactUpTo_succ]
  by_cases hk : Lib.keeps d m = true
  ·rw [if_pos hk]
   refine ⟨List.pairwise_append.2 ⟨h1, by simp, fun x hx y hy => ?_⟩, fun x => ?_⟩
   ·obtain rfl := List.mem_singleton.1 hy
    obtain ⟨j, hj, rfl⟩ := (h2 x).1 hx
    have h3 := hs j (m - 1) (by omega) (by omega)
    have h4 := hs (m - 1) m (by omega) (by omega)
    have h5 : d[m]! ≠ d[m - 1]! := by
     unfold Lib.keeps at hk
     simp only [decide_eq_true_eq] at hk
     rcases hk with h0 | h0
     ·omega
     ·exact h0
    exact before_le h3 (before_of h4 h5)
   ·rw [List.mem_append, h2, List.mem_singleton]
    constructor
    ·rintro (⟨j, hj, rfl⟩ | rfl)
     ·exact ⟨j, by omega, rfl⟩
     ·exact ⟨m, by omega, rfl⟩
    ·rintro ⟨j, hj, rfl⟩
     by_cases hjm : j = m
     ·subst hjm; exact .inr rfl
     ·exact .inl ⟨j, by omega, rfl⟩
  ·rw [if_neg hk, List.append_nil]
   refine ⟨h1, fun x => ?_⟩
   rw [h2]
   have h5 : m ≠ 0 ∧ d[m]! = d[m - 1]! := by
    unfold Lib.keeps at hk
    simp only [decide_eq_true_eq, not_or, Decidable.not_not] at hk
    exact hk
   constructor
   ·rintro ⟨j, hj, rfl⟩; exact ⟨j, by omega, rfl⟩
   ·rintro ⟨j, hj, rfl⟩
    by_cases hjm : j = m
    ·subst hjm; exact ⟨j - 1, by omega, h5.2.symm⟩
    ·exact ⟨j, by omega, rfl⟩
theorem litLe_trans (a b c : Int) (h1 : litLe a b = true) (h2 : litLe b c = true) : litLe a c = true := by
 rw [le_iff, before_iff] at *; omega
theorem litLe_total (a b : Int) : (litLe a b || litLe b a) = true := by
 rw [Bool.or_eq_true, le_iff, le_iff, before_iff, before_iff]; omega
theorem compact_lits (l : List Int) : (Lib.compact (l.mergeSort litLe)).Pairwise before ∧ ∀ x, x ∈ Lib.compact (l.mergeSort litLe) ↔ x ∈ l := by
 obtain ⟨s, hs⟩ : ∃ s, l.mergeSort litLe = s := ⟨_, rfl⟩
 have hp : s.Perm l := by rw [← hs]; exact List.mergeSort_perm l _
 have ho : s.Pairwise (fun x y => litLe x y = true) := by
  rw [← hs]
  exact List.pairwise_mergeSort litLe_trans litLe_total l
 rw [hs]
 unfold Lib.compact
 have hd : ∀ i j, i ≤ j → j < s.toArray.size → litLe s.toArray[i]! s.toArray[j]! = true := by
  intro i j hij hj
  have hj' : j < s.length := by simpa using hj
  have e1 : s.toArray[i]! = s[i]'(by omega) := by rw [getElem!_pos s.toArray i (by simp; omega)]; rfl
  have e2 : s.toArray[j]! = s[j] := by rw [getElem!_pos s.toArray j hj]; rfl
  rw [e1, e2]
  rcases Nat.lt_or_ge i j with h | h
  ·exact List.pairwise_iff_getElem.1 ho i j (by omega) hj' h
  ·obtain rfl : i = j := by omega
   rw [le_iff]
   exact before_irrefl _
 obtain ⟨h1, h2⟩ := compact_sortedL s.toArray hd s.length (by simp)
 refine ⟨h1, fun x => ?_⟩
 rw [h2, ← hp.mem_iff]
 constructor
 ·rintro ⟨j, hj, rfl⟩
  rw [getElem!_pos s.toArray j (by simpa using hj)]
  simp
 ·intro hx
  obtain ⟨j, hj, rfl⟩ := List.getElem_of_mem hx
  exact ⟨j, hj, by rw [getElem!_pos s.toArray j (by simpa using hj)]; rfl⟩
/-- The literals of the first n names that are in L. -/
def litsN (L : List Int) : Nat → List Int
 | 0 => []
 | n + 1 => litsN L n ++ (if -((n : Int) + 1) ∈ L then [-((n : Int) + 1)] else []) ++ (if ((n : Int) + 1) ∈ L then [(n : Int) + 1] else [])
theorem litsN_mem (L : List Int) (n : Nat) (x : Int) : x ∈ litsN L n ↔ x ≠ 0 ∧ -(n : Int) ≤ x ∧ x ≤ (n : Int) ∧ x ∈ L := by
 induction n with
 | zero => simp [litsN]; omega
 | succ n ih =>
  rw [litsN, List.mem_append, List.mem_append, ih]
  have e1 : (x ∈ (if -((n : Int) + 1) ∈ L then [-((n : Int) + 1)] else [])) ↔ x = -((n : Int) + 1) ∧ x ∈ L := by
   split
   ·rename_i h; rw [List.mem_singleton]; exact ⟨fun e => ⟨e, e ▸ h⟩, fun e => e.1⟩
   ·rename_i h; exact ⟨fun e => absurd e (by simp), fun e => absurd (e.1 ▸ e.2) h⟩
  have e2 : (x ∈ (if ((n : Int) + 1) ∈ L then [(n : Int) + 1] else [])) ↔ x = (n : Int) + 1 ∧ x ∈ L := by
   split
   ·rename_i h; rw [List.mem_singleton]; exact ⟨fun e => ⟨e, e ▸ h⟩, fun e => e.1⟩
   ·rename_i h; exact ⟨fun e => absurd e (by simp), fun e => absurd (e.1 ▸ e.2) h⟩
  rw [e1, e2]
  by_cases hL : x ∈ L
  ·simp only [hL, and_true]; omega
  ·simp [hL]
theorem litsN_len (L : List Int) (n : Nat) : (litsN L n).length ≤ 2 * n := by
 induction n with
 | zero => simp [litsN]
 | succ n ih =>
  rw [litsN, List.length_append, List.length_append]
  have h1 : (if -((n : Int) + 1) ∈ L then [-((n : Int) + 1)] else []).length ≤ 1 := by split <;> simp
  have h2 : (if ((n : Int) + 1) ∈ L then [(n : Int) + 1] else []).length ≤ 1 := by split <;> simp
  omega
theorem key_abs (x : Int) (h0 : -400 ≤ x) (h1 : x ≤ 400) : litKey x = mx x (-x) := by unfold litKey; rw [wrap64_id _ (by omega) (by omega)]
theorem litsN_pair (L : List Int) (n : Nat) (hn : n ≤ 400) : (litsN L n).Pairwise before := by
 induction n with
 | zero => simp [litsN]
 | succ n ih =>
  rw [litsN]
  have hb : ∀ x y : Int, -400 ≤ x → x ≤ 400 → -400 ≤ y → y ≤ 400 → (mx x (-x) < mx y (-y) ∨ (mx x (-x) = mx y (-y) ∧ x < y)) → before x y := by
   intro x y a1 a2 a3 a4 h
   rw [before_iff, key_abs x a1 a2, key_abs y a3 a4]
   exact h
  refine List.pairwise_append.2 ⟨List.pairwise_append.2 ⟨ih (by omega), by split <;> simp, fun x hx y hy => ?_⟩, by split <;> simp, fun x hx y hy => ?_⟩
  ·have hx' := (litsN_mem L n x).1 hx
   obtain rfl : y = -((n : Int) + 1) := by
    split at hy
    ·simpa using hy
    ·cases hy
   refine hb _ _ (by omega) (by omega) (by omega) (by omega) (.inl ?_)
   unfold mx
   split <;> split <;> omega
  ·obtain rfl : y = (n : Int) + 1 := by
    split at hy
    ·simpa using hy
    ·cases hy
   rcases List.mem_append.1 hx with hx | hx
   ·have hx' := (litsN_mem L n x).1 hx
    refine hb _ _ (by omega) (by omega) (by omega) (by omega) (.inl ?_)
    unfold mx
    split <;> split <;> omega
   ·obtain rfl : x = -((n : Int) + 1) := by
     split at hx
     ·simpa using hx
     ·cases hx
    refine hb _ _ (by omega) (by omega) (by omega) (by omega) (.inr ?_)
    unfold mx
    split <;> split <;> omega
theorem out_lits (L : List Int) (h : ∀ x ∈ L, x ≠ 0 ∧ -400 ≤ x ∧ x ≤ 400) : Lib.compact (L.mergeSort litLe) = litsN L 400 := by
 obtain ⟨h1, h2⟩ := compact_lits L
 refine rising_eq _ _ h1 (litsN_pair L 400 (Nat.le_refl _)) fun z => ?_
 rw [h2, litsN_mem]
 constructor
 ·intro hz
  have := h z hz
  exact ⟨this.1, by omega, by omega, hz⟩
 ·intro hz
  exact hz.2.2.2
def bothL (l0 l1 : List Int) (a2 : Int) : List Int := roLess l0 a2 ++ roLess l1 (wrap64 (-a2))
theorem bothL_mem (l0 l1 : List Int) (a2 y : Int) : y ∈ bothL l0 l1 a2 ↔ (y ∈ l0 ∧ ¬ y = a2) ∨ (y ∈ l1 ∧ ¬ y = wrap64 (-a2)) := by
 unfold bothL roLess
 rw [List.mem_append, List.mem_filter, List.mem_filter]
 simp
theorem inner_step (l0 l1 : List Int) (h0 : l0.length ≤ 8) (h1 : l1.length ≤ 8) (a2 x9 : Int) (acc ys : List Int) (ha : acc.length ≤ 2000) (i : Nat) (hi : i < ys.length) (hys : ys.length ≤ 2) (k : Nat) (hk : 10 ≤ k) :
  spec_ResolveOn.l1 (k + 1) l0 l1 a2 acc x9 ys (ys.length : Int) (i : Int) = spec_ResolveOn.l1 k l0 l1 a2 (acc ++ if ys[i] ∈ bothL l0 l1 a2 then [ys[i]] else []) x9 ys (ys.length : Int) ((i + 1 : Nat) : Int) := by
 have e1 : wrap64 ((i : Int) + 1) = ((i + 1 : Nat) : Int) := by rw [wrap64_id _ (by omega) (by omega)]; omega
 have hm := bothL_mem l0 l1 a2 ys[i]
 simp only [spec_ResolveOn.l1]
 rw [if_pos (by omega), if_pos (by omega), if_pos (by omega), rdInt_at hi, e1, has_val l0 (by omega) _ k (by omega), has_val l1 (by omega) _ k (by omega)]
 simp only [Option.bind_some, decide_eq_true_eq]
 rw [if_pos (show acc.length < 17592186044416 by omega)]
 obtain ⟨y, hy⟩ : ∃ y, ys[i] = y := ⟨_, rfl⟩
 rw [hy] at hm ⊢
 rcases Classical.propComplete (y ∈ l0) with c1 | c1 <;> rcases Classical.propComplete (y = a2) with c2 | c2 <;> rcases Classical.propComplete (y ∈ l1) with c3 | c3 <;> rcases Classical.propComplete (y = wrap64 (-a2)) with c4 | c4 <;> simp only [hm, c1, c2, c3, c4, if_true, if_false, not_true, not_false_eq_true, and_true, and_false, or_true, or_false, and_self, List.append_nil]
theorem outer_step (l0 l1 : List Int) (h0 : l0.length ≤ 8) (h1 : l1.length ≤ 8) (a2 : Int) (n : Nat) (hn : n < 400) (k : Nat) (hk : 20 ≤ k) :
  spec_ResolveOn.l0 (k + 4) l0 l1 a2 (litsN (bothL l0 l1 a2) n) ((n : Int) + 1) = spec_ResolveOn.l0 k l0 l1 a2 (litsN (bothL l0 l1 a2) (n + 1)) (((n + 1 : Nat) : Int) + 1) := by
 have e1 : wrap64 (-((n : Int) + 1)) = -((n : Int) + 1) := wrap64_id _ (by omega) (by omega)
 have e2 : wrap64 ((n : Int) + 1 + 1) = ((n + 1 : Nat) : Int) + 1 := by rw [wrap64_id _ (by omega) (by omega)]; omega
 have hl := litsN_len (bothL l0 l1 a2) n
 rw [show k + 4 = (k + 3) + 1 by omega]
 simp only [spec_ResolveOn.l0]
 rw [if_pos (by omega), e1]
 simp only [Option.bind_some]
 obtain ⟨ys, hys⟩ : ∃ ys : List Int, [-((n : Int) + 1), (n : Int) + 1] = ys := ⟨_, rfl⟩
 have hy2 : ys.length = 2 := by rw [← hys]; rfl
 have i0 := inner_step l0 l1 h0 h1 a2 ((n : Int) + 1) (litsN (bothL l0 l1 a2) n) ys (by omega) 0 (by omega) (by omega) (k + 2) (by omega)
 have g0 : ys[0]'(by omega) = -((n : Int) + 1) := by subst hys; rfl
 have g1 : ys[1]'(by omega) = (n : Int) + 1 := by subst hys; rfl
 rw [g0] at i0
 have hl2 : (litsN (bothL l0 l1 a2) n ++ if -((n : Int) + 1) ∈ bothL l0 l1 a2 then [-((n : Int) + 1)] else []).length ≤ 2000 := by
  rw [List.length_append]
  have : (if -((n : Int) + 1) ∈ bothL l0 l1 a2 then [-((n : Int) + 1)] else []).length ≤ 1 := by split <;> simp
  omega
 have i1 := inner_step l0 l1 h0 h1 a2 ((n : Int) + 1) _ ys hl2 1 (by omega) (by omega) (k + 1) (by omega)
 rw [g1] at i1
 rw [hys]
 rw [Int.natCast_zero] at i0
 refine (i0.trans i1).trans ?_
 simp only [spec_ResolveOn.l1]
 rw [if_neg (by omega), e2]
 rfl
def roEnd (o : List Int) : List Int × Bool := if o.length > 8 then ([], false) else (o, true)
theorem outer_loop (l0 l1 : List Int) (h0 : l0.length ≤ 8) (h1 : l1.length ≤ 8) (a2 : Int) (d : Nat) : ∀ (n k : Nat), n + d = 400 → 4 * d + 30 ≤ k →
  spec_ResolveOn.l0 k l0 l1 a2 (litsN (bothL l0 l1 a2) n) ((n : Int) + 1) = some (roEnd (litsN (bothL l0 l1 a2) 400)) := by
 induction d with
 | zero =>
  intro n k hi hk
  obtain ⟨k, rfl⟩ : ∃ m, k = m + 1 := ⟨k - 1, by omega⟩
  obtain rfl : n = 400 := by omega
  simp only [spec_ResolveOn.l0, roEnd]
  rw [if_neg (by omega)]
  by_cases h : (litsN (bothL l0 l1 a2) 400).length > 8
  ·rw [if_pos h, if_pos (by omega)]
  ·rw [if_neg h, if_neg (by omega)]
 | succ d ih =>
  intro n k hi hk
  obtain ⟨k, rfl⟩ : ∃ m, k = m + 4 := ⟨k - 4, by omega⟩
  rw [outer_step l0 l1 h0 h1 a2 n (by omega) k (by omega)]
  exact ih (n + 1) k (by omega) (by omega)
def roGood (l0 l1 : List Int) (a2 : Int) : Bool := clauseB 400 l0 && clauseB 400 l1 && decide (1 ≤ a2 ∧ a2 ≤ 400) && decide (a2 ∈ l0) && decide (wrap64 (-a2) ∈ l1)
def roR (l0 l1 : List Int) (a2 : Int) : List Int × Bool := if roGood l0 l1 a2 = true then roEnd (litsN (bothL l0 l1 a2) 400) else ([], false)
theorem clause_len {l : List Int} (h : clauseB 400 l = true) : l.length ≤ 8 := by
 unfold clauseB at h
 simp only [Bool.and_eq_true, decide_eq_true_eq] at h
 exact h.1
theorem clause_mem {l : List Int} (h : clauseB 400 l = true) (x : Int) (hx : x ∈ l) : x ≠ 0 ∧ -400 ≤ x ∧ x ≤ 400 := by
 unfold clauseB at h
 simp only [Bool.and_eq_true, decide_eq_true_eq, List.all_eq_true] at h
 have := h.2 x hx
 unfold litB at this
 simp only [decide_eq_true_eq] at this
 exact this
theorem ro_spec (l0 l1 : List Int) (a2 : Int) (k : Nat) (hk : 2000 ≤ k) : spec_ResolveOn.f k l0 l1 a2 = some (roR l0 l1 a2) := by
 obtain ⟨k, rfl⟩ : ∃ m, k = m + 1 := ⟨k - 1, by omega⟩
 unfold spec_ResolveOn.f roR roGood
 rw [specClause_val 400 (by omega) (by omega) l0 _ (by omega)]
 simp only [Option.bind_some]
 by_cases c0 : clauseB 400 l0 = true
 case neg => rw [if_neg c0, Bool.eq_false_iff.mpr c0]; simp [spec_ResolveOn.j0]
 have hl0 := clause_len c0
 rw [if_pos c0, specClause_val 400 (by omega) (by omega) l1 _ (by omega), c0]
 simp only [Option.bind_some, Bool.true_and]
 by_cases c1 : clauseB 400 l1 = true
 case neg => rw [if_neg c1, Bool.eq_false_iff.mpr c1]; simp [spec_ResolveOn.j0]
 have hl1 := clause_len c1
 have ein : spec_l1In.f a2 1 400 = some (decide (1 ≤ a2 ∧ a2 ≤ 400)) := by
  unfold spec_l1In.f
  by_cases h : a2 ≥ 1
  ·rw [if_pos h]; congr 1; exact decide_eq_decide.mpr (by omega)
  ·rw [if_neg h, decide_eq_false (by omega)]
 rw [if_pos c1, c1, ein]
 simp only [Option.bind_some, Bool.true_and, decide_eq_true_eq]
 by_cases c2 : 1 ≤ a2 ∧ a2 ≤ 400
 case neg => rw [if_neg c2, decide_eq_false c2]; simp [spec_ResolveOn.j0]
 rw [if_pos c2, decide_eq_true c2, has_val l0 (by omega) _ _ (by omega)]
 simp only [Option.bind_some, Bool.true_and, decide_eq_true_eq]
 by_cases c3 : a2 ∈ l0
 case neg => rw [if_neg c3, decide_eq_false c3]; simp [spec_ResolveOn.j0]
 rw [if_pos c3, decide_eq_true c3, has_val l1 (by omega) _ _ (by omega)]
 simp only [Option.bind_some, Bool.true_and]
 by_cases c4 : wrap64 (-a2) ∈ l1
 case neg => rw [decide_eq_false c4]; simp [spec_ResolveOn.j0]
 rw [decide_eq_true c4]
 simp only [spec_ResolveOn.j0, Bool.not_true, Bool.false_eq_true, if_false, if_true]
 exact outer_loop l0 l1 hl0 hl1 a2 400 0 k (by omega) (by omega)
theorem ro_bad (l0 l1 : List Int) (a2 : Int) : roBad l0 l1 a2 = some (!roGood l0 l1 a2) := by
 unfold roBad roGood
 by_cases c2 : 1 ≤ a2 ∧ a2 ≤ 400
 case neg =>
  rw [decide_eq_false c2]
  by_cases c : a2 < 1
  ·rw [if_pos c]; simp
  ·rw [if_neg c, if_pos (by omega)]; simp
 rw [if_neg (by omega), if_neg (by omega), isClause_val 400 (by omega) (by omega), decide_eq_true c2]
 simp only [Option.bind_some, Bool.and_true]
 by_cases c0 : clauseB 400 l0 = true
 case neg => rw [if_neg c0, Bool.eq_false_iff.mpr c0]; rfl
 have hl0 := clause_len c0
 rw [if_pos c0, isClause_val 400 (by omega) (by omega), c0]
 simp only [Option.bind_some, Bool.true_and]
 by_cases c1 : clauseB 400 l1 = true
 case neg => rw [if_neg c1, Bool.eq_false_iff.mpr c1]; rfl
 have hl1 := clause_len c1
 rw [if_pos c1, contains_val l0 (by omega) _ _ (by omega), c1]
 simp only [Option.bind_some, Bool.true_and, decide_eq_true_eq]
 by_cases c3 : a2 ∈ l0
 case neg => rw [if_neg c3, decide_eq_false c3]; rfl
 rw [if_pos c3, decide_eq_true c3, contains_val l1 (by omega) _ _ (by omega)]
 simp only [Option.bind_some, Bool.true_and]
theorem ro_impl (l0 l1 : List Int) (a2 : Int) : impl_ResolveOn.f l0 l1 a2 = some (roR l0 l1 a2) := by
 unfold impl_ResolveOn.f roR
 rw [ro_bad]
 simp only [Option.bind_some]
 by_cases h : roGood l0 l1 a2 = true
 case neg => rw [Bool.eq_false_iff.mpr h]; rfl
 have h2 := h
 unfold roGood at h2
 simp only [Bool.and_eq_true] at h2
 have hl0 := clause_len h2.1.1.1.1
 have hl1 := clause_len h2.1.1.1.2
 rw [h]
 simp only [Bool.not_true, Bool.false_eq_true, if_false, if_true]
 rw [if_pos (by omega), if_pos (by omega)]
 have e : roOut l0 l1 a2 = litsN (bothL l0 l1 a2) 400 := by
  refine out_lits (bothL l0 l1 a2) fun x hx => ?_
  rcases (bothL_mem l0 l1 a2 x).1 hx with h3 | h3
  ·exact clause_mem h2.1.1.1.1 x h3.1
  ·exact clause_mem h2.1.1.1.2 x h3.1
 rw [e]
 unfold roEnd
 by_cases h3 : (litsN (bothL l0 l1 a2) 400).length > 8
 ·rw [if_pos h3, if_pos h3]
 ·rw [if_neg h3, if_neg h3]
theorem roR_len (l0 l1 : List Int) (a2 : Int) : (roR l0 l1 a2).1.length ≤ 8 := by
 unfold roR roEnd
 split
 ·split
  ·simp
  ·rename_i h; dsimp only; omega
 ·simp
theorem FnExactResolveOn : laws_FnExactResolveOn.Pure := by
 intro l0 l1 a2 _ _ _
 refine ⟨l0.length + l1.length + 3003, ?_⟩
 obtain ⟨q, hq⟩ : ∃ q, l0.length + l1.length + 3000 = q := ⟨_, rfl⟩
 rw [show l0.length + l1.length + 3003 = q + 3 by omega]
 unfold laws_FnExactResolveOn.f
 by_cases hb : (l0.length : Int) > 1048576
 ·rw [if_pos hb]
 ·rewrite [if_neg hb]
  by_cases hb1 : (l1.length : Int) > 1048576
  ·rw [if_pos hb1]
  ·rewrite [if_neg hb1, toInt_val _ l0 (by omega) (by omega)]
   simp only [Option.bind_some]
   rewrite [toInt_val _ l1 (by omega) (by omega)]
   simp only [Option.bind_some]
   have hr := roR_len l0 l1 a2
   have hS := fun k hk => ro_spec l0 l1 a2 k hk
   have hI := ro_impl l0 l1 a2
   obtain ⟨r2, b2, hres⟩ : ∃ r2 b2, roR l0 l1 a2 = (r2, b2) := ⟨_, _, rfl⟩
   simp only [hres] at hS hI hr
   have hbb : (b2 != b2) = false := by simp
   rewrite [hS _ (by omega), hI]
   simp only [Option.bind_some]
   rewrite [eqInt_val _ r2 (by omega) (by omega)]
   simp only [Option.bind_some, if_true, laws_FnExactResolveOn.j0, hbb, Bool.false_eq_true, if_false]
   rewrite [toInt_val _ l0 (by omega) (by omega)]
   simp only [Option.bind_some]
   rewrite [eqInt_val _ l0 (by omega) (by omega)]
   simp only [Option.bind_some, if_true]
   rewrite [toInt_val _ l1 (by omega) (by omega)]
   simp only [Option.bind_some]
   rewrite [eqInt_val _ l1 (by omega) (by omega)]
   simp only [Option.bind_some, if_true]
   rewrite [markInt_val _ 1 (by omega) (by omega) l0 (by omega) (by omega)]
   simp only [Option.bind_some]
   rewrite [markInt_val _ (1 + 1 * (l0.length : Int)) (by omega) (by omega) l1 (by omega) (by omega)]
   simp only [Option.bind_some]
   rewrite [if_neg (by omega), eqInt_val _ r2 (by omega) (by omega)]
   simp only [Option.bind_some, if_true, laws_FnExactResolveOn.j1, Bool.false_eq_true, if_false]
   rewrite [markInt_val _ 1 (by omega) (by omega) r2 (by omega) (by omega)]
   simp only [Option.bind_some]
   rewrite [heldInt_val _ 1 (by omega) (by omega) r2.length (by omega) (by omega)]
   simp only [Option.bind_some]
   rewrite [if_neg (by omega)]
   simp only [if_true]
   rewrite [toInt_val _ l0 (by omega) (by omega)]
   simp only [Option.bind_some]
   rewrite [toInt_val _ l1 (by omega) (by omega)]
   simp only [Option.bind_some]
   rewrite [hI]
   simp only [Option.bind_some]
   rewrite [eqInt_val _ r2 (by omega) (by omega)]
   simp only [Option.bind_some, if_true, laws_FnExactResolveOn.j2, hbb, Bool.false_eq_true, if_false]
   rewrite [heldInt_val _ 1 (by omega) (by omega) r2.length (by omega) (by omega)]
   simp only [Option.bind_some]
   rewrite [if_neg (by omega)]
   rfl
end Go.Proofs.Ytdmngodinbelfaa.Pure
