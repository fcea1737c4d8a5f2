/- The laws' own list functions (copying, comparing, measuring, writing over, looking again) come to plain lists. Conditions: lists no longer than 2^20. Written by wip/xp/lists.py. -/
import Derived.Test.YtimkjhdopncimaaListsD
import Derived.Test.YtimkjhdopncimaaX18
import Derived.Test.YtimkjhdopncimaaX19
import Derived.Test.YtimkjhdopncimaaXO
namespace Go.Proofs.Ytimkjhdopncimaa.Pure
open Go.RowKit Go.Proofs.Ytimkjhdopncimaa.X Go.Proofs.YtimkjhdopncimaaW.PrintWords Go.Proofs.YtimkjhdopncimaaW.PrintLast Go.Proofs.YtimkjhdopncimaaW.PrintMore Go.Proofs.Ytimkjhdopncimaa.Bits
/-- A list of n elements, numbered on from m. -/
def mkGate (m : Int) : Nat → List S59
  | 0 => []
  | n + 1 => ⟨m, m + 1, m + 2⟩ :: mkGate (m + 3) n
theorem mkGate_len (n : Nat) : ∀ m, (mkGate m n).length = n := by
  induction n with
  | zero => intro m; rfl
  | succ n ih => intro m; simp [mkGate, ih]
theorem mkGate_snoc (n : Nat) : ∀ m, mkGate m (n + 1) = mkGate m n ++ [⟨m + 3 * (n : Int), m + 3 * (n : Int) + 1, m + 3 * (n : Int) + 2⟩] := by
  induction n with
  | zero => intro m; simp [mkGate]
  | succ n ih =>
    intro m
    rw [mkGate, ih (m + 3), mkGate, List.cons_append]
    have : m + 3 + 3 * (n : Int) = m + 3 * ((n + 1 : Nat) : Int) := by omega
    rw [this]
theorem mkGate_at (m : Int) (n i : Nat) (h : i < n) : rd_T59 (mkGate m n) (i : Int) = ⟨m + 3 * (i : Int), m + 3 * (i : Int) + 1, m + 3 * (i : Int) + 2⟩ := by
  induction n generalizing m i with
  | zero => omega
  | succ n ih =>
    cases i with
    | zero => simp [rd_T59, mkGate]
    | succ i =>
      have := ih (m + 3) i (by omega)
      unfold rd_T59 at this ⊢
      rw [Int.toNat_natCast] at this ⊢
      rw [mkGate, List.getD_cons_succ, this]
      have e : m + 3 + 3 * (i : Int) = m + 3 * ((i + 1 : Nat) : Int) := by omega
      rw [e]
theorem markGate_loop (b : Int) (hb : 0 ≤ b) (hb2 : b ≤ 100000000) (l : List S59) (hl : l.length ≤ 1048576) (d : Nat) : ∀ (i k : Nat), i + d = l.length → d < k →
    laws_markGateS.l0 k (mkGate b i ++ l.drop i) (b + 3 * (i : Int)) (i : Int) = some (b + 3 * (l.length : Int), mkGate b l.length) := by
  induction d with
  | zero =>
    intro i k hi hk
    obtain ⟨k, rfl⟩ : ∃ m, k = m + 1 := ⟨k - 1, by omega⟩
    obtain rfl : i = l.length := by omega
    simp only [laws_markGateS.l0]
    rw [if_neg (by simp [mkGate_len]), List.drop_eq_nil_of_le (by omega), List.append_nil]
  | succ d ih =>
    intro i k hi hk
    obtain ⟨k, rfl⟩ : ∃ m, k = m + 1 := ⟨k - 1, by omega⟩
    have hit : i < l.length := by omega
    have e1 : wrap64 ((i : Int) + 1) = ((i + 1 : Nat) : Int) := by rw [wrap64_id _ (by omega) (by omega)]; omega
    have q0 : wrap64 (b + 3 * (i : Int) + 1) = b + 3 * (i : Int) + 1 := by rw [wrap64_id _ (by omega) (by omega)]
    have q1 : wrap64 (b + 3 * (i : Int) + 1 + 1) = b + 3 * (i : Int) + 2 := by rw [wrap64_id _ (by omega) (by omega)]; omega
    have q2 : wrap64 (b + 3 * (i : Int) + 2 + 1) = b + 3 * ((i + 1 : Nat) : Int) := by rw [wrap64_id _ (by omega) (by omega)]; omega
    have hd : l.drop i = l[i] :: l.drop (i + 1) := List.drop_eq_getElem_cons hit
    have hset : ∀ y z : S59, (mkGate b i ++ y :: l.drop (i + 1)).set i z = mkGate b i ++ z :: l.drop (i + 1) := fun y z => set_mid _ _ _ _ _ (by rw [mkGate_len])
    have hrd : ∀ y : S59, rd_T59 (mkGate b i ++ y :: l.drop (i + 1)) (i : Int) = y := by
      intro y
      rw [rdGate_at (by simp [mkGate_len]), List.getElem_append_right (by rw [mkGate_len]; omega)]
      simp [mkGate_len]
    simp only [laws_markGateS.l0]
    rewrite [if_pos (by simp [mkGate_len]; omega), if_pos (by omega)]
    (try simp only [Option.bind_some])
    rewrite [hd, Int.toNat_natCast, hset, hset, hset, hrd, hrd, hrd, e1, q0, q1, q2]
    have := ih (i + 1) k (by omega) (by omega)
    rw [mkGate_snoc, List.append_assoc] at this
    exact this
theorem markGate_val (k : Nat) (b : Int) (hb : 0 ≤ b) (hb2 : b ≤ 100000000) (l : List S59) (hl : l.length ≤ 1048576) (hk : l.length < k) : laws_markGateS.f k l b = some (b + 3 * (l.length : Int), mkGate b l.length) := by
  have := markGate_loop b hb hb2 l hl l.length 0 k (by omega) hk
  unfold laws_markGateS.f
  simpa [mkGate] using this

/-- A list of n elements, numbered on from m. -/
def mkInt (m : Int) : Nat → List Int
  | 0 => []
  | n + 1 => m :: mkInt (m + 1) n
theorem mkInt_len (n : Nat) : ∀ m, (mkInt m n).length = n := by
  induction n with
  | zero => intro m; rfl
  | succ n ih => intro m; simp [mkInt, ih]
theorem mkInt_snoc (n : Nat) : ∀ m, mkInt m (n + 1) = mkInt m n ++ [m + 1 * (n : Int)] := by
  induction n with
  | zero => intro m; simp [mkInt]
  | succ n ih =>
    intro m
    rw [mkInt, ih (m + 1), mkInt, List.cons_append]
    have : m + 1 + 1 * (n : Int) = m + 1 * ((n + 1 : Nat) : Int) := by omega
    rw [this]
theorem mkInt_at (m : Int) (n i : Nat) (h : i < n) : rd (mkInt m n) (i : Int) = m + 1 * (i : Int) := by
  induction n generalizing m i with
  | zero => omega
  | succ n ih =>
    cases i with
    | zero => simp [rd, mkInt]
    | succ i =>
      have := ih (m + 1) i (by omega)
      unfold rd at this ⊢
      rw [Int.toNat_natCast] at this ⊢
      rw [mkInt, List.getD_cons_succ, this]
      have e : m + 1 + 1 * (i : Int) = m + 1 * ((i + 1 : Nat) : Int) := by omega
      rw [e]
theorem markInt_loop (b : Int) (hb : 0 ≤ b) (hb2 : b ≤ 100000000) (l : List Int) (hl : l.length ≤ 1048576) (d : Nat) : ∀ (i k : Nat), i + d = l.length → d < k →
    laws_markIntS.l0 k (mkInt b i ++ l.drop i) (b + 1 * (i : Int)) (i : Int) = some (b + 1 * (l.length : Int), mkInt b l.length) := by
  induction d with
  | zero =>
    intro i k hi hk
    obtain ⟨k, rfl⟩ : ∃ m, k = m + 1 := ⟨k - 1, by omega⟩
    obtain rfl : i = l.length := by omega
    simp only [laws_markIntS.l0]
    rw [if_neg (by simp [mkInt_len]), List.drop_eq_nil_of_le (by omega), List.append_nil]
  | succ d ih =>
    intro i k hi hk
    obtain ⟨k, rfl⟩ : ∃ m, k = m + 1 := ⟨k - 1, by omega⟩
    have hit : i < l.length := by omega
    have e1 : wrap64 ((i : Int) + 1) = ((i + 1 : Nat) : Int) := by rw [wrap64_id _ (by omega) (by omega)]; omega
    have q0 : wrap64 (b + 1 * (i : Int) + 1) = b + 1 * ((i + 1 : Nat) : Int) := by rw [wrap64_id _ (by omega) (by omega)]; omega
    have hd : l.drop i = l[i] :: l.drop (i + 1) := List.drop_eq_getElem_cons hit
    have hset : ∀ y z : Int, (mkInt b i ++ y :: l.drop (i + 1)).set i z = mkInt b i ++ z :: l.drop (i + 1) := fun y z => set_mid _ _ _ _ _ (by rw [mkInt_len])
    simp only [laws_markIntS.l0]
    rewrite [if_pos (by simp [mkInt_len]; omega), if_pos (by omega)]
    (try simp only [Option.bind_some])
    rewrite [hd, Int.toNat_natCast, hset, e1, q0]
    have := ih (i + 1) k (by omega) (by omega)
    rw [mkInt_snoc, List.append_assoc] at this
    exact this
theorem markInt_val (k : Nat) (b : Int) (hb : 0 ≤ b) (hb2 : b ≤ 100000000) (l : List Int) (hl : l.length ≤ 1048576) (hk : l.length < k) : laws_markIntS.f k l b = some (b + 1 * (l.length : Int), mkInt b l.length) := by
  have := markInt_loop b hb hb2 l hl l.length 0 k (by omega) hk
  unfold laws_markIntS.f
  simpa [mkInt] using this

end Go.Proofs.Ytimkjhdopncimaa.Pure
