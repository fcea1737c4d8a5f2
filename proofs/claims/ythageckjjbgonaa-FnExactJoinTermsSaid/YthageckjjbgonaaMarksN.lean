/- The laws' own list functions (copying, comparing, measuring, writing over, looking again) come to plain lists. Conditions: lists no longer than 2^20. Written by wip/xp/lists.py. -/
import Derived.Test.YthageckjjbgonaaNodes
import Derived.Test.YthageckjjbgonaaX17
import Derived.Test.YthageckjjbgonaaXO
namespace Go.Proofs.Ythageckjjbgonaa.Pure
open Go.RowKit Go.Proofs.Ythageckjjbgonaa.X Go.Proofs.YthageckjjbgonaaW.PrintWords Go.Proofs.YthageckjjbgonaaW.PrintLast Go.Proofs.YthageckjjbgonaaW.PrintMore Go.Proofs.Ythageckjjbgonaa.Bits
/-- A list of n elements, numbered on from m. -/
def mkNode (m : Int) : Nat → List S47
  | 0 => []
  | n + 1 => ⟨m, m + 1⟩ :: mkNode (m + 2) n
theorem mkNode_len (n : Nat) : ∀ m, (mkNode m n).length = n := by
  induction n with
  | zero => intro m; rfl
  | succ n ih => intro m; simp [mkNode, ih]
theorem mkNode_snoc (n : Nat) : ∀ m, mkNode m (n + 1) = mkNode m n ++ [⟨m + 2 * (n : Int), m + 2 * (n : Int) + 1⟩] := by
  induction n with
  | zero => intro m; simp [mkNode]
  | succ n ih =>
    intro m
    rw [mkNode, ih (m + 2), mkNode, List.cons_append]
    have : m + 2 + 2 * (n : Int) = m + 2 * ((n + 1 : Nat) : Int) := by omega
    rw [this]
theorem mkNode_at (m : Int) (n i : Nat) (h : i < n) : rd_T47 (mkNode m n) (i : Int) = ⟨m + 2 * (i : Int), m + 2 * (i : Int) + 1⟩ := by
  induction n generalizing m i with
  | zero => omega
  | succ n ih =>
    cases i with
    | zero => simp [rd_T47, mkNode]
    | succ i =>
      have := ih (m + 2) i (by omega)
      unfold rd_T47 at this ⊢
      rw [Int.toNat_natCast] at this ⊢
      rw [mkNode, List.getD_cons_succ, this]
      have e : m + 2 + 2 * (i : Int) = m + 2 * ((i + 1 : Nat) : Int) := by omega
      rw [e]
theorem markNode_loop (b : Int) (hb : 0 ≤ b) (hb2 : b ≤ 100000000) (l : List S47) (hl : l.length ≤ 1048576) (d : Nat) : ∀ (i k : Nat), i + d = l.length → d < k →
    laws_markNodeS.l0 k (mkNode b i ++ l.drop i) (b + 2 * (i : Int)) (i : Int) = some (b + 2 * (l.length : Int), mkNode b l.length) := by
  induction d with
  | zero =>
    intro i k hi hk
    obtain ⟨k, rfl⟩ : ∃ m, k = m + 1 := ⟨k - 1, by omega⟩
    obtain rfl : i = l.length := by omega
    simp only [laws_markNodeS.l0]
    rw [if_neg (by simp [mkNode_len]), List.drop_eq_nil_of_le (by omega), List.append_nil]
  | succ d ih =>
    intro i k hi hk
    obtain ⟨k, rfl⟩ : ∃ m, k = m + 1 := ⟨k - 1, by omega⟩
    have hit : i < l.length := by omega
    have e1 : wrap64 ((i : Int) + 1) = ((i + 1 : Nat) : Int) := by rw [wrap64_id _ (by omega) (by omega)]; omega
    have q0 : wrap64 (b + 2 * (i : Int) + 1) = b + 2 * (i : Int) + 1 := by rw [wrap64_id _ (by omega) (by omega)]
    have q1 : wrap64 (b + 2 * (i : Int) + 1 + 1) = b + 2 * ((i + 1 : Nat) : Int) := by rw [wrap64_id _ (by omega) (by omega)]; omega
    have w1 : IntKind.u64.wrap (b + 2 * (i : Int) + 1) = b + 2 * (i : Int) + 1 := u64_id _ (by omega) (by omega)
    have hd : l.drop i = l[i] :: l.drop (i + 1) := List.drop_eq_getElem_cons hit
    have hset : ∀ y z : S47, (mkNode b i ++ y :: l.drop (i + 1)).set i z = mkNode b i ++ z :: l.drop (i + 1) := fun y z => set_mid _ _ _ _ _ (by rw [mkNode_len])
    have hrd : ∀ y : S47, rd_T47 (mkNode b i ++ y :: l.drop (i + 1)) (i : Int) = y := by
      intro y
      rw [rdNode_at (by simp [mkNode_len]), List.getElem_append_right (by rw [mkNode_len]; omega)]
      simp [mkNode_len]
    simp only [laws_markNodeS.l0]
    rewrite [if_pos (by simp [mkNode_len]; omega), if_pos (by omega)]
    (try simp only [Option.bind_some])
    rewrite [hd, Int.toNat_natCast, hset, hset, hrd, hrd, e1, q0, q1, w1]
    have := ih (i + 1) k (by omega) (by omega)
    rw [mkNode_snoc, List.append_assoc] at this
    exact this
theorem markNode_val (k : Nat) (b : Int) (hb : 0 ≤ b) (hb2 : b ≤ 100000000) (l : List S47) (hl : l.length ≤ 1048576) (hk : l.length < k) : laws_markNodeS.f k l b = some (b + 2 * (l.length : Int), mkNode b l.length) := by
  have := markNode_loop b hb hb2 l hl l.length 0 k (by omega) hk
  unfold laws_markNodeS.f
  simpa [mkNode] using this
theorem heldNode_loop (b : Int) (hb : 0 ≤ b) (hb2 : b ≤ 100000000) (n : Nat) (hn : n ≤ 1048576) (d : Nat) : ∀ (i k : Nat), i + d = n → d < k →
    laws_heldNodeS.l0 k (mkNode b n) (b + 2 * (i : Int)) (i : Int) = some (b + 2 * (n : Int)) := by
  induction d with
  | zero =>
    intro i k hi hk
    obtain ⟨k, rfl⟩ : ∃ m, k = m + 1 := ⟨k - 1, by omega⟩
    obtain rfl : i = n := by omega
    simp only [laws_heldNodeS.l0]
    rw [if_neg (by rw [mkNode_len]; omega)]
  | succ d ih =>
    intro i k hi hk
    obtain ⟨k, rfl⟩ : ∃ m, k = m + 1 := ⟨k - 1, by omega⟩
    have e1 : wrap64 ((i : Int) + 1) = ((i + 1 : Nat) : Int) := by rw [wrap64_id _ (by omega) (by omega)]; omega
    have q0 : wrap64 (b + 2 * (i : Int) + 1) = b + 2 * (i : Int) + 1 := by rw [wrap64_id _ (by omega) (by omega)]
    have q1 : wrap64 (b + 2 * (i : Int) + 1 + 1) = b + 2 * ((i + 1 : Nat) : Int) := by rw [wrap64_id _ (by omega) (by omega)]; omega
    have w1 : IntKind.u64.wrap (b + 2 * (i : Int) + 1) = b + 2 * (i : Int) + 1 := u64_id _ (by omega) (by omega)
    simp only [laws_heldNodeS.l0]
    rewrite [if_pos (by rw [mkNode_len]; omega), if_pos (by omega), mkNode_at b n i (by omega), q0, q1, w1]
    rewrite [if_pos (by rfl), if_pos (by rfl), e1]
    exact ih (i + 1) k (by omega) (by omega)
theorem heldNode_val (k : Nat) (b : Int) (hb : 0 ≤ b) (hb2 : b ≤ 100000000) (n : Nat) (hn : n ≤ 1048576) (hk : n < k) : laws_heldNodeS.f k (mkNode b n) b = some (b + 2 * (n : Int)) := by
  have := heldNode_loop b hb hb2 n hn n 0 k (by omega) hk
  unfold laws_heldNodeS.f
  simpa using this

end Go.Proofs.Ythageckjjbgonaa.Pure
