/- The laws' own list functions (copying, comparing, measuring, writing over, looking again) come to plain lists. Conditions: lists no longer than 2^20. Written by wip/xp/lists.py. -/
import Derived.Test.YtifapbeoaakaaaaWords
import Derived.Test.YtifapbeoaakaaaaX3
import Derived.Test.YtifapbeoaakaaaaX6
import Derived.Test.YtifapbeoaakaaaaX7
import Derived.Test.YtifapbeoaakaaaaXO
namespace Go.Proofs.Ytifapbeoaakaaaa.Pure
open Go.RowKit Go.Proofs.Ytifapbeoaakaaaa.X Go.Proofs.YtifapbeoaakaaaaW.PrintWords Go.Proofs.YtifapbeoaakaaaaW.PrintLast Go.Proofs.YtifapbeoaakaaaaW.PrintMore Go.Proofs.Ytifapbeoaakaaaa.Bits
theorem set_mid {α : Type} (a b : List α) (x y : α) (n : Nat) (h : n = a.length) : (a ++ x :: b).set n y = a ++ y :: b := by
  subst h; simp
theorem rdUint64_at {t : List Int} {i : Nat} (h : i < t.length) : rd t (i : Int) = t[i] := by
  unfold rd
  rw [Int.toNat_natCast, List.getD_eq_getElem?_getD, List.getElem?_eq_getElem h]; rfl
theorem toUint64_loop (l : List Int) (hl : l.length ≤ 1048576) (d : Nat) : ∀ (i : Nat) (k : Nat), i + d = l.length → d < k →
    laws_toUint64S.l0 k l ((l.take i) ++ List.replicate d 0) (i : Int) = some (l) := by
  induction d with
  | zero =>
    intro i k hi hk
    obtain ⟨k, rfl⟩ : ∃ m, k = m + 1 := ⟨k - 1, by omega⟩
    simp only [laws_toUint64S.l0]
    rw [if_neg (by omega), List.take_of_length_le (by omega)]
    simp
  | succ d ih =>
    intro i k hi hk
    obtain ⟨k, rfl⟩ : ∃ m, k = m + 1 := ⟨k - 1, by omega⟩
    have hit : i < l.length := by omega
    have e1 : wrap64 ((i : Int) + 1) = ((i + 1 : Nat) : Int) := by rw [wrap64_id _ (by omega) (by omega)]; omega
    simp only [laws_toUint64S.l0]
    rewrite [if_pos (by omega), if_pos (by omega)]
    rewrite [if_pos (by simp; omega), rdUint64_at hit, e1, Int.toNat_natCast, List.replicate_succ, set_mid _ _ _ _ _ (by simp; omega)]
    have h2 : (l.take i) ++ l[i] :: List.replicate d 0 = (l.take (i + 1)) ++ List.replicate d 0 := by
      rw [List.take_add_one, List.getElem?_eq_getElem hit, Option.toList_some, List.append_assoc]
      rfl
    rewrite [h2]
    exact ih (i + 1) k (by omega) (by omega)
theorem toUint64_val (k : Nat) (l : List Int) (hl : l.length ≤ 1048576) (hk : l.length < k) : laws_toUint64S.f k l = some (l) := by
  unfold laws_toUint64S.f
  rw [if_pos (by omega), Int.toNat_natCast, if_pos (by omega)]
  have := toUint64_loop l hl l.length 0 k (by omega) hk
  simpa using this
theorem eqUint64_loop (l : List Int) (hl : l.length ≤ 1048576) (d : Nat) : ∀ (i : Nat) (k : Nat), i + d = l.length → d < k → laws_eqUint64S.l0 k l l (i : Int) = some true := by
  induction d with
  | zero =>
    intro i k hi hk
    obtain ⟨k, rfl⟩ : ∃ m, k = m + 1 := ⟨k - 1, by omega⟩
    simp only [laws_eqUint64S.l0]
    rw [if_neg (by omega)]
  | succ d ih =>
    intro i k hi hk
    obtain ⟨k, rfl⟩ : ∃ m, k = m + 1 := ⟨k - 1, by omega⟩
    have e1 : wrap64 ((i : Int) + 1) = ((i + 1 : Nat) : Int) := by rw [wrap64_id _ (by omega) (by omega)]; omega
    simp only [laws_eqUint64S.l0]
    rewrite [if_pos (by omega), if_pos (by omega), if_pos (by omega)]
    rewrite [if_pos trivial]
    rewrite [e1]
    exact ih (i + 1) k (by omega) (by omega)
theorem eqUint64_val (k : Nat) (l : List Int) (hl : l.length ≤ 1048576) (hk : l.length < k) : laws_eqUint64S.f k l l = some true := by
  unfold laws_eqUint64S.f
  rw [if_pos rfl]
  exact eqUint64_loop l hl l.length 0 k (by omega) hk
/-- A list of n elements, numbered on from m. -/
def mkUint64 (m : Int) : Nat → List Int
  | 0 => []
  | n + 1 => m :: mkUint64 (m + 1) n
theorem mkUint64_len (n : Nat) : ∀ m, (mkUint64 m n).length = n := by
  induction n with
  | zero => intro m; rfl
  | succ n ih => intro m; simp [mkUint64, ih]
theorem mkUint64_snoc (n : Nat) : ∀ m, mkUint64 m (n + 1) = mkUint64 m n ++ [m + 1 * (n : Int)] := by
  induction n with
  | zero => intro m; simp [mkUint64]
  | succ n ih =>
    intro m
    rw [mkUint64, ih (m + 1), mkUint64, List.cons_append]
    have : m + 1 + 1 * (n : Int) = m + 1 * ((n + 1 : Nat) : Int) := by omega
    rw [this]
theorem mkUint64_at (m : Int) (n i : Nat) (h : i < n) : rd (mkUint64 m n) (i : Int) = m + 1 * (i : Int) := by
  induction n generalizing m i with
  | zero => omega
  | succ n ih =>
    cases i with
    | zero => simp [rd, mkUint64]
    | succ i =>
      have := ih (m + 1) i (by omega)
      unfold rd at this ⊢
      rw [Int.toNat_natCast] at this ⊢
      rw [mkUint64, List.getD_cons_succ, this]
      have e : m + 1 + 1 * (i : Int) = m + 1 * ((i + 1 : Nat) : Int) := by omega
      rw [e]
theorem markUint64_loop (b : Int) (hb : 0 ≤ b) (hb2 : b ≤ 100000000) (l : List Int) (hl : l.length ≤ 1048576) (d : Nat) : ∀ (i k : Nat), i + d = l.length → d < k →
    laws_markUint64S.l0 k (mkUint64 b i ++ l.drop i) (b + 1 * (i : Int)) (i : Int) = some (b + 1 * (l.length : Int), mkUint64 b l.length) := by
  induction d with
  | zero =>
    intro i k hi hk
    obtain ⟨k, rfl⟩ : ∃ m, k = m + 1 := ⟨k - 1, by omega⟩
    obtain rfl : i = l.length := by omega
    simp only [laws_markUint64S.l0]
    rw [if_neg (by simp [mkUint64_len]), List.drop_eq_nil_of_le (by omega), List.append_nil]
  | succ d ih =>
    intro i k hi hk
    obtain ⟨k, rfl⟩ : ∃ m, k = m + 1 := ⟨k - 1, by omega⟩
    have hit : i < l.length := by omega
    have e1 : wrap64 ((i : Int) + 1) = ((i + 1 : Nat) : Int) := by rw [wrap64_id _ (by omega) (by omega)]; omega
    have q0 : wrap64 (b + 1 * (i : Int) + 1) = b + 1 * ((i + 1 : Nat) : Int) := by rw [wrap64_id _ (by omega) (by omega)]; omega
    have w0 : IntKind.u64.wrap (b + 1 * (i : Int)) = b + 1 * (i : Int) := u64_id _ (by omega) (by omega)
    have hd : l.drop i = l[i] :: l.drop (i + 1) := List.drop_eq_getElem_cons hit
    have hset : ∀ y z : Int, (mkUint64 b i ++ y :: l.drop (i + 1)).set i z = mkUint64 b i ++ z :: l.drop (i + 1) := fun y z => set_mid _ _ _ _ _ (by rw [mkUint64_len])
    simp only [laws_markUint64S.l0]
    rewrite [if_pos (by simp [mkUint64_len]; omega), if_pos (by omega)]
    (try simp only [Option.bind_some])
    rewrite [hd, Int.toNat_natCast, hset, e1, q0, w0]
    have := ih (i + 1) k (by omega) (by omega)
    rw [mkUint64_snoc, List.append_assoc] at this
    exact this
theorem markUint64_val (k : Nat) (b : Int) (hb : 0 ≤ b) (hb2 : b ≤ 100000000) (l : List Int) (hl : l.length ≤ 1048576) (hk : l.length < k) : laws_markUint64S.f k l b = some (b + 1 * (l.length : Int), mkUint64 b l.length) := by
  have := markUint64_loop b hb hb2 l hl l.length 0 k (by omega) hk
  unfold laws_markUint64S.f
  simpa [mkUint64] using this

theorem rdBool_at {t : List Bool} {i : Nat} (h : i < t.length) : rdOf false t (i : Int) = t[i] := by
  unfold rdOf
  rw [Int.toNat_natCast, List.getD_eq_getElem?_getD, List.getElem?_eq_getElem h]; rfl
theorem eqBool_loop (l : List Bool) (hl : l.length ≤ 1048576) (d : Nat) : ∀ (i : Nat) (k : Nat), i + d = l.length → d < k → laws_eqBoolS.l0 k l l (i : Int) = some true := by
  induction d with
  | zero =>
    intro i k hi hk
    obtain ⟨k, rfl⟩ : ∃ m, k = m + 1 := ⟨k - 1, by omega⟩
    simp only [laws_eqBoolS.l0]
    rw [if_neg (by omega)]
  | succ d ih =>
    intro i k hi hk
    obtain ⟨k, rfl⟩ : ∃ m, k = m + 1 := ⟨k - 1, by omega⟩
    have e1 : wrap64 ((i : Int) + 1) = ((i + 1 : Nat) : Int) := by rw [wrap64_id _ (by omega) (by omega)]; omega
    simp only [laws_eqBoolS.l0]
    rewrite [if_pos (by omega), if_pos (by omega), if_pos (by omega)]
    rewrite [if_neg (by simp)]
    rewrite [e1]
    exact ih (i + 1) k (by omega) (by omega)
theorem eqBool_val (k : Nat) (l : List Bool) (hl : l.length ≤ 1048576) (hk : l.length < k) : laws_eqBoolS.f k l l = some true := by
  unfold laws_eqBoolS.f
  rw [if_pos rfl]
  exact eqBool_loop l hl l.length 0 k (by omega) hk
/-- A list of n elements, numbered on from m. -/
def mkBool (m : Int) : Nat → List Bool
  | 0 => []
  | n + 1 => (Int.tmod (m) 3 == 0) :: mkBool (m + 1) n
theorem mkBool_len (n : Nat) : ∀ m, (mkBool m n).length = n := by
  induction n with
  | zero => intro m; rfl
  | succ n ih => intro m; simp [mkBool, ih]
theorem mkBool_snoc (n : Nat) : ∀ m, mkBool m (n + 1) = mkBool m n ++ [(Int.tmod (m + 1 * (n : Int)) 3 == 0)] := by
  induction n with
  | zero => intro m; simp [mkBool]
  | succ n ih =>
    intro m
    rw [mkBool, ih (m + 1), mkBool, List.cons_append]
    have : m + 1 + 1 * (n : Int) = m + 1 * ((n + 1 : Nat) : Int) := by omega
    rw [this]
theorem mkBool_at (m : Int) (n i : Nat) (h : i < n) : rdOf false (mkBool m n) (i : Int) = (Int.tmod (m + 1 * (i : Int)) 3 == 0) := by
  induction n generalizing m i with
  | zero => omega
  | succ n ih =>
    cases i with
    | zero => simp [rdOf, mkBool]
    | succ i =>
      have := ih (m + 1) i (by omega)
      unfold rdOf at this ⊢
      rw [Int.toNat_natCast] at this ⊢
      rw [mkBool, List.getD_cons_succ, this]
      have e : m + 1 + 1 * (i : Int) = m + 1 * ((i + 1 : Nat) : Int) := by omega
      rw [e]
theorem markBool_loop (b : Int) (hb : 0 ≤ b) (hb2 : b ≤ 100000000) (l : List Bool) (hl : l.length ≤ 1048576) (d : Nat) : ∀ (i k : Nat), i + d = l.length → d < k →
    laws_markBoolS.l0 k (mkBool b i ++ l.drop i) (b + 1 * (i : Int)) (i : Int) = some (b + 1 * (l.length : Int), mkBool b l.length) := by
  induction d with
  | zero =>
    intro i k hi hk
    obtain ⟨k, rfl⟩ : ∃ m, k = m + 1 := ⟨k - 1, by omega⟩
    obtain rfl : i = l.length := by omega
    simp only [laws_markBoolS.l0]
    rw [if_neg (by simp [mkBool_len]), List.drop_eq_nil_of_le (by omega), List.append_nil]
  | succ d ih =>
    intro i k hi hk
    obtain ⟨k, rfl⟩ : ∃ m, k = m + 1 := ⟨k - 1, by omega⟩
    have hit : i < l.length := by omega
    have e1 : wrap64 ((i : Int) + 1) = ((i + 1 : Nat) : Int) := by rw [wrap64_id _ (by omega) (by omega)]; omega
    have q0 : wrap64 (b + 1 * (i : Int) + 1) = b + 1 * ((i + 1 : Nat) : Int) := by rw [wrap64_id _ (by omega) (by omega)]; omega
    have hd : l.drop i = l[i] :: l.drop (i + 1) := List.drop_eq_getElem_cons hit
    have hset : ∀ y z : Bool, (mkBool b i ++ y :: l.drop (i + 1)).set i z = mkBool b i ++ z :: l.drop (i + 1) := fun y z => set_mid _ _ _ _ _ (by rw [mkBool_len])
    simp only [laws_markBoolS.l0]
    rewrite [if_pos (by simp [mkBool_len]; omega), if_pos (by omega)]
    (try simp only [Option.bind_some])
    rewrite [hd, Int.toNat_natCast, hset, e1, q0]
    have := ih (i + 1) k (by omega) (by omega)
    rw [mkBool_snoc, List.append_assoc] at this
    exact this
theorem markBool_val (k : Nat) (b : Int) (hb : 0 ≤ b) (hb2 : b ≤ 100000000) (l : List Bool) (hl : l.length ≤ 1048576) (hk : l.length < k) : laws_markBoolS.f k l b = some (b + 1 * (l.length : Int), mkBool b l.length) := by
  have := markBool_loop b hb hb2 l hl l.length 0 k (by omega) hk
  unfold laws_markBoolS.f
  simpa [mkBool] using this
theorem heldBool_loop (b : Int) (hb : 0 ≤ b) (hb2 : b ≤ 100000000) (n : Nat) (hn : n ≤ 1048576) (d : Nat) : ∀ (i k : Nat), i + d = n → d < k →
    laws_heldBoolS.l0 k (mkBool b n) (b + 1 * (i : Int)) (i : Int) = some (b + 1 * (n : Int)) := by
  induction d with
  | zero =>
    intro i k hi hk
    obtain ⟨k, rfl⟩ : ∃ m, k = m + 1 := ⟨k - 1, by omega⟩
    obtain rfl : i = n := by omega
    simp only [laws_heldBoolS.l0]
    rw [if_neg (by rw [mkBool_len]; omega)]
  | succ d ih =>
    intro i k hi hk
    obtain ⟨k, rfl⟩ : ∃ m, k = m + 1 := ⟨k - 1, by omega⟩
    have e1 : wrap64 ((i : Int) + 1) = ((i + 1 : Nat) : Int) := by rw [wrap64_id _ (by omega) (by omega)]; omega
    have q0 : wrap64 (b + 1 * (i : Int) + 1) = b + 1 * ((i + 1 : Nat) : Int) := by rw [wrap64_id _ (by omega) (by omega)]; omega
    simp only [laws_heldBoolS.l0]
    rewrite [if_pos (by rw [mkBool_len]; omega), if_pos (by omega), mkBool_at b n i (by omega), q0]
    rewrite [if_neg (by simp), e1]
    exact ih (i + 1) k (by omega) (by omega)
theorem heldBool_val (k : Nat) (b : Int) (hb : 0 ≤ b) (hb2 : b ≤ 100000000) (n : Nat) (hn : n ≤ 1048576) (hk : n < k) : laws_heldBoolS.f k (mkBool b n) b = some (b + 1 * (n : Int)) := by
  have := heldBool_loop b hb hb2 n hn n 0 k (by omega) hk
  unfold laws_heldBoolS.f
  simpa using this
end Go.Proofs.Ytifapbeoaakaaaa.Pure
