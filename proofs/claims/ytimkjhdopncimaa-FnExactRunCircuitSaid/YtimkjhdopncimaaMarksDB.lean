/- The laws' own list functions (copying, comparing, measuring, writing over, looking again) come to plain lists. Conditions: lists no longer than 2^20. Written by wip/xp/lists.py. -/
import Derived.Test.YtimkjhdopncimaaListsDB
import Derived.Test.YtimkjhdopncimaaX19
import Derived.Test.YtimkjhdopncimaaXO
namespace Go.Proofs.Ytimkjhdopncimaa.Pure
open Go.RowKit Go.Proofs.Ytimkjhdopncimaa.X Go.Proofs.YtimkjhdopncimaaW.PrintWords Go.Proofs.YtimkjhdopncimaaW.PrintLast Go.Proofs.YtimkjhdopncimaaW.PrintMore Go.Proofs.Ytimkjhdopncimaa.Bits
/-- A list of n elements, numbered on from m. -/
def mkBool (m : Int) : Nat → List Bool
  | 0 => []
  | n + 1 => (Int.tmod (m) 3 == 0) :: mkBool (m + 1) n
theorem mkBool_len (n : Nat) : ∀ m, (mkBool m n).length = n := by
  induction n with
  | zero => intro m; rfl
  | succ n ih => intro m; simp [mkBool, ih]
theorem mkBool_snoc (n : Nat) : ∀ m, mkBool m (n + 1) = mkBool m n ++ [(Int.tmod (m + 1 * (n : Int)) 3 == 0)] := by
  induction n with
  | zero => intro m; simp [mkBool]
  | succ n ih =>
    intro m
    rw [mkBool, ih (m + 1), mkBool, List.cons_append]
    have : m + 1 + 1 * (n : Int) = m + 1 * ((n + 1 : Nat) : Int) := by omega
    rw [this]
theorem mkBool_at (m : Int) (n i : Nat) (h : i < n) : rdOf false (mkBool m n) (i : Int) = (Int.tmod (m + 1 * (i : Int)) 3 == 0) := by
  induction n generalizing m i with
  | zero => omega
  | succ n ih =>
    cases i with
    | zero => simp [rdOf, mkBool]
    | succ i =>
      have := ih (m + 1) i (by omega)
      unfold rdOf at this ⊢
      rw [Int.toNat_natCast] at this ⊢
      rw [mkBool, List.getD_cons_succ, this]
      have e : m + 1 + 1 * (i : Int) = m + 1 * ((i + 1 : Nat) : Int) := by omega
      rw [e]
theorem markBool_loop (b : Int) (hb : 0 ≤ b) (hb2 : b ≤ 100000000) (l : List Bool) (hl : l.length ≤ 1048576) (d : Nat) : ∀ (i k : Nat), i + d = l.length → d < k →
    laws_markBoolS.l0 k (mkBool b i ++ l.drop i) (b + 1 * (i : Int)) (i : Int) = some (b + 1 * (l.length : Int), mkBool b l.length) := by
  induction d with
  | zero =>
    intro i k hi hk
    obtain ⟨k, rfl⟩ : ∃ m, k = m + 1 := ⟨k - 1, by omega⟩
    obtain rfl : i = l.length := by omega
    simp only [laws_markBoolS.l0]
    rw [if_neg (by simp [mkBool_len]), List.drop_eq_nil_of_le (by omega), List.append_nil]
  | succ d ih =>
    intro i k hi hk
    obtain ⟨k, rfl⟩ : ∃ m, k = m + 1 := ⟨k - 1, by omega⟩
    have hit : i < l.length := by omega
    have e1 : wrap64 ((i : Int) + 1) = ((i + 1 : Nat) : Int) := by rw [wrap64_id _ (by omega) (by omega)]; omega
    have q0 : wrap64 (b + 1 * (i : Int) + 1) = b + 1 * ((i + 1 : Nat) : Int) := by rw [wrap64_id _ (by omega) (by omega)]; omega
    have hd : l.drop i = l[i] :: l.drop (i + 1) := List.drop_eq_getElem_cons hit
    have hset : ∀ y z : Bool, (mkBool b i ++ y :: l.drop (i + 1)).set i z = mkBool b i ++ z :: l.drop (i + 1) := fun y z => set_mid _ _ _ _ _ (by rw [mkBool_len])
    simp only [laws_markBoolS.l0]
    rewrite [if_pos (by simp [mkBool_len]; omega), if_pos (by omega)]
    (try simp only [Option.bind_some])
    rewrite [hd, Int.toNat_natCast, hset, e1, q0]
    have := ih (i + 1) k (by omega) (by omega)
    rw [mkBool_snoc, List.append_assoc] at this
    exact this
theorem markBool_val (k : Nat) (b : Int) (hb : 0 ≤ b) (hb2 : b ≤ 100000000) (l : List Bool) (hl : l.length ≤ 1048576) (hk : l.length < k) : laws_markBoolS.f k l b = some (b + 1 * (l.length : Int), mkBool b l.length) := by
  have := markBool_loop b hb hb2 l hl l.length 0 k (by omega) hk
  unfold laws_markBoolS.f
  simpa [mkBool] using this
theorem heldBool_loop (b : Int) (hb : 0 ≤ b) (hb2 : b ≤ 100000000) (n : Nat) (hn : n ≤ 1048576) (d : Nat) : ∀ (i k : Nat), i + d = n → d < k →
    laws_heldBoolS.l0 k (mkBool b n) (b + 1 * (i : Int)) (i : Int) = some (b + 1 * (n : Int)) := by
  induction d with
  | zero =>
    intro i k hi hk
    obtain ⟨k, rfl⟩ : ∃ m, k = m + 1 := ⟨k - 1, by omega⟩
    obtain rfl : i = n := by omega
    simp only [laws_heldBoolS.l0]
    rw [if_neg (by rw [mkBool_len]; omega)]
  | succ d ih =>
    intro i k hi hk
    obtain ⟨k, rfl⟩ : ∃ m, k = m + 1 := ⟨k - 1, by omega⟩
    have e1 : wrap64 ((i : Int) + 1) = ((i + 1 : Nat) : Int) := by rw [wrap64_id _ (by omega) (by omega)]; omega
    have q0 : wrap64 (b + 1 * (i : Int) + 1) = b + 1 * ((i + 1 : Nat) : Int) := by rw [wrap64_id _ (by omega) (by omega)]; omega
    simp only [laws_heldBoolS.l0]
    rewrite [if_pos (by rw [mkBool_len]; omega), if_pos (by omega), mkBool_at b n i (by omega), q0]
    rewrite [if_neg (by simp), e1]
    exact ih (i + 1) k (by omega) (by omega)
theorem heldBool_val (k : Nat) (b : Int) (hb : 0 ≤ b) (hb2 : b ≤ 100000000) (n : Nat) (hn : n ≤ 1048576) (hk : n < k) : laws_heldBoolS.f k (mkBool b n) b = some (b + 1 * (n : Int)) := by
  have := heldBool_loop b hb hb2 n hn n 0 k (by omega) hk
  unfold laws_heldBoolS.f
  simpa using this

end Go.Proofs.Ytimkjhdopncimaa.Pure
