/- The law on IsPlain: the reference's loop and the program's search come to the same. Conditions: those of the law's own Pure. The laws' own list functions (copying, comparing, measuring, writing over, looking again) come to plain lists. Conditions: lists no longer than 2^20. Written by wip/xp/lists.py. The laws' own list functions (copying, comparing, measuring, writing over, looking again) come to plain lists. Conditions: lists no longer than 2^20. Written by wip/xp/lists.py. The law on VarsIn: the reference's insertion and the program's sorting and compacting come to one strictly rising list. Conditions: those of the law's own Pure. -/
import Derived.Test.YthageckjjbgonaaNodes
import Derived.Test.YthageckjjbgonaaXO
import Derived.Lib.SlicesCompact
import Derived.Test.YthageckjjbgonaaX15
import Derived.Test.YthageckjjbgonaaX17
import Derived.Test.YthageckjjbgonaaX23
import Derived.Test.YthageckjjbgonaaX33
import Derived.Test.YthageckjjbgonaaX34
import Derived.Test.YthageckjjbgonaaX35
import Derived.Test.YthageckjjbgonaaX36
namespace Go.Proofs.Ythageckjjbgonaa.Pure
open Go.RowKit Go.Proofs.Ythageckjjbgonaa.X Go.Proofs.YthageckjjbgonaaW.PrintWords Go.Proofs.YthageckjjbgonaaW.PrintLast Go.Proofs.Ythageckjjbgonaa.Bits

theorem isPlain_spec_loop (t : List Nd) (ht : t.length ≤ 48) (d : Nat) : ∀ (i k : Nat), i + d = t.length → d < k →
    spec_IsPlain.l0 k t (t.length : Int) (i : Int) = some (!((t.drop i).any notPlain), true) := by
  induction d with
  | zero =>
    intro i k hi hk
    obtain ⟨k, rfl⟩ : ∃ m, k = m + 1 := ⟨k - 1, by omega⟩
    simp only [spec_IsPlain.l0]
    rw [if_neg (by omega), List.drop_eq_nil_of_le (by omega)]
    rfl
  | succ d ih =>
    intro i k hi hk
    obtain ⟨k, rfl⟩ : ∃ m, k = m + 1 := ⟨k - 1, by omega⟩
    have hit : i < t.length := by omega
    have e1 : wrap64 ((i : Int) + 1) = ((i + 1 : Nat) : Int) := by rw [wrap64_id _ (by omega) (by omega)]; omega
    have hdrop : t.drop i = t[i] :: t.drop (i + 1) := List.drop_eq_getElem_cons hit
    have hnp : notPlain t[i] = decide (t[i].f0 = 6 ∨ t[i].f0 = 7 ∨ t[i].f0 = 11 ∨ t[i].f0 = 12) := rfl
    simp only [spec_IsPlain.l0]
    rewrite [if_pos (by omega), if_pos (by omega), if_pos (by omega), rd_at hit, hdrop, List.any_cons, hnp]
    by_cases h1 : t[i].f0 = 6
    · simp [h1]
    · by_cases h2 : t[i].f0 = 7
      · simp [h2]
      · by_cases h3 : t[i].f0 = 11
        · simp [h3]
        · by_cases h4 : t[i].f0 = 12
          · simp [h4]
          · rewrite [if_neg h1, if_neg h2, if_neg h3, if_neg h4, e1, ih (i + 1) k (by omega) (by omega)]
            simp [h1, h2, h3, h4]
theorem kindT_len (w v : Int) (t : List Nd) (h : kindT w v t > 0) : t.length ≤ 48 ∧ 1 ≤ t.length ∧ 1 ≤ w ∧ w ≤ 64 ∧ 1 ≤ v ∧ v ≤ 4 := by
  unfold kindT at h
  split at h
  · omega
  · exact absurd h (by decide)
theorem FnExactIsPlain : laws_FnExactIsPlain.Pure := by
  intro w v l _ _ hl
  have hlen := hl.1
  simp only [maxLen] at hlen
  refine ⟨rounds l, ?_⟩
  unfold laws_FnExactIsPlain.f
  rewrite [sz_val l hlen]
  simp only [Option.bind_some]
  by_cases hs : 1048576 < l.length
  · rw [if_pos hs, if_pos (by decide)]
  · have hk : l.length < rounds l := by unfold rounds; omega
    have hk2 : 401 < rounds l := by unfold rounds; omega
    have hok := conv_ok l hl.2
    have hgo : ∀ k, rounds l ≤ k → laws_FnExactIsPlain.j0 k l (l.map conv) false = some true := by
      intro k hkk
      obtain ⟨k, rfl⟩ : ∃ m, k = m + 1 := ⟨k - 1, by omega⟩
      simp only [laws_FnExactIsPlain.j0]
      rewrite [if_neg (by decide), toNodes_val _ l (by omega) (by unfold rounds at hkk; omega)]
      simp only [Option.bind_some]
      rewrite [eqNodes_val _ _ (by simp; omega) (by simp; unfold rounds at hkk; omega)]
      rfl
    rewrite [if_neg hs, if_neg (by omega), toNodes_val _ l (by omega) hk]
    simp only [Option.bind_some]
    unfold spec_IsPlain.f impl_IsPlain.f impl_isPlain.f impl_isPlain_any.f
    rewrite [goodTerm_spec _ w v _ hok (by omega), goodTerm_impl _ w v _ hok (by omega)]
    simp only [Option.bind_some, decide_eq_true_eq]
    by_cases hg : kindT w v (l.map conv) > 0
    · have hloop := isPlain_spec_loop (l.map conv) (kindT_len w v _ hg).1 _ 0 (rounds l) (Nat.zero_add _) (by simpa using hk)
      simp only [Int.natCast_zero, List.drop_zero] at hloop
      rewrite [if_pos hg, if_pos hg, hloop]
      simp only [Option.bind_some]
      rewrite [if_neg (by simp)]
      exact hgo _ (Nat.le_refl _)
    · rewrite [if_neg hg, if_neg hg]
      simp only [Option.bind_some]
      rewrite [if_neg (by simp)]
      exact hgo _ (Nat.le_refl _)
end Go.Proofs.Ythageckjjbgonaa.Pure

namespace Go.Proofs.Ythageckjjbgonaa.Pure
open Go.RowKit Go.Proofs.Ythageckjjbgonaa.X Go.Proofs.YthageckjjbgonaaW.PrintWords Go.Proofs.YthageckjjbgonaaW.PrintLast Go.Proofs.YthageckjjbgonaaW.PrintMore Go.Proofs.Ythageckjjbgonaa.Bits
/-- A list of n elements, numbered on from m. -/
def mkNode (m : Int) : Nat → List S47
  | 0 => []
  | n + 1 => ⟨m, m + 1⟩ :: mkNode (m + 2) n
theorem mkNode_len (n : Nat) : ∀ m, (mkNode m n).length = n := by
  induction n with
  | zero => intro m; rfl
  | succ n ih => intro m; simp [mkNode, ih]
theorem mkNode_snoc (n : Nat) : ∀ m, mkNode m (n + 1) = mkNode m n ++ [⟨m + 2 * (n : Int), m + 2 * (n : Int) + 1⟩] := by
  induction n with
  | zero => intro m; simp [mkNode]
  | succ n ih =>
    intro m
    rw [mkNode, ih (m + 2), mkNode, List.cons_append]
    have : m + 2 + 2 * (n : Int) = m + 2 * ((n + 1 : Nat) : Int) := by omega
    rw [this]
theorem mkNode_at (m : Int) (n i : Nat) (h : i < n) : rd_T47 (mkNode m n) (i : Int) = ⟨m + 2 * (i : Int), m + 2 * (i : Int) + 1⟩ := by
  induction n generalizing m i with
  | zero => omega
  | succ n ih =>
    cases i with
    | zero => simp [rd_T47, mkNode]
    | succ i =>
      have := ih (m + 2) i (by omega)
      unfold rd_T47 at this ⊢
      rw [Int.toNat_natCast] at this ⊢
      rw [mkNode, List.getD_cons_succ, this]
      have e : m + 2 + 2 * (i : Int) = m + 2 * ((i + 1 : Nat) : Int) := by omega
      rw [e]
theorem markNode_loop (b : Int) (hb : 0 ≤ b) (hb2 : b ≤ 100000000) (l : List S47) (hl : l.length ≤ 1048576) (d : Nat) : ∀ (i k : Nat), i + d = l.length → d < k →
    laws_markNodeS.l0 k (mkNode b i ++ l.drop i) (b + 2 * (i : Int)) (i : Int) = some (b + 2 * (l.length : Int), mkNode b l.length) := by
  induction d with
  | zero =>
    intro i k hi hk
    obtain ⟨k, rfl⟩ : ∃ m, k = m + 1 := ⟨k - 1, by omega⟩
    obtain rfl : i = l.length := by omega
    simp only [laws_markNodeS.l0]
    rw [if_neg (by simp [mkNode_len]), List.drop_eq_nil_of_le (by omega), List.append_nil]
  | succ d ih =>
    intro i k hi hk
    obtain ⟨k, rfl⟩ : ∃ m, k = m + 1 := ⟨k - 1, by omega⟩
    have hit : i < l.length := by omega
    have e1 : wrap64 ((i : Int) + 1) = ((i + 1 : Nat) : Int) := by rw [wrap64_id _ (by omega) (by omega)]; omega
    have q0 : wrap64 (b + 2 * (i : Int) + 1) = b + 2 * (i : Int) + 1 := by rw [wrap64_id _ (by omega) (by omega)]
    have q1 : wrap64 (b + 2 * (i : Int) + 1 + 1) = b + 2 * ((i + 1 : Nat) : Int) := by rw [wrap64_id _ (by omega) (by omega)]; omega
    have w1 : IntKind.u64.wrap (b + 2 * (i : Int) + 1) = b + 2 * (i : Int) + 1 := u64_id _ (by omega) (by omega)
    have hd : l.drop i = l[i] :: l.drop (i + 1) := List.drop_eq_getElem_cons hit
    have hset : ∀ y z : S47, (mkNode b i ++ y :: l.drop (i + 1)).set i z = mkNode b i ++ z :: l.drop (i + 1) := fun y z => set_mid _ _ _ _ _ (by rw [mkNode_len])
    have hrd : ∀ y : S47, rd_T47 (mkNode b i ++ y :: l.drop (i + 1)) (i : Int) = y := by
      intro y
      rw [rdNode_at (by simp [mkNode_len]), List.getElem_append_right (by rw [mkNode_len]; omega)]
      simp [mkNode_len]
    simp only [laws_markNodeS.l0]
    rewrite [if_pos (by simp [mkNode_len]; omega), if_pos (by omega)]
    (try simp only [Option.bind_some])
    rewrite [hd, Int.toNat_natCast, hset, hset, hrd, hrd, e1, q0, q1, w1]
    have := ih (i + 1) k (by omega) (by omega)
    rw [mkNode_snoc, List.append_assoc] at this
    exact this
theorem markNode_val (k : Nat) (b : Int) (hb : 0 ≤ b) (hb2 : b ≤ 100000000) (l : List S47) (hl : l.length ≤ 1048576) (hk : l.length < k) : laws_markNodeS.f k l b = some (b + 2 * (l.length : Int), mkNode b l.length) := by
  have := markNode_loop b hb hb2 l hl l.length 0 k (by omega) hk
  unfold laws_markNodeS.f
  simpa [mkNode] using this
theorem heldNode_loop (b : Int) (hb : 0 ≤ b) (hb2 : b ≤ 100000000) (n : Nat) (hn : n ≤ 1048576) (d : Nat) : ∀ (i k : Nat), i + d = n → d < k →
    laws_heldNodeS.l0 k (mkNode b n) (b + 2 * (i : Int)) (i : Int) = some (b + 2 * (n : Int)) := by
  induction d with
  | zero =>
    intro i k hi hk
    obtain ⟨k, rfl⟩ : ∃ m, k = m + 1 := ⟨k - 1, by omega⟩
    obtain rfl : i = n := by omega
    simp only [laws_heldNodeS.l0]
    rw [if_neg (by rw [mkNode_len]; omega)]
  | succ d ih =>
    intro i k hi hk
    obtain ⟨k, rfl⟩ : ∃ m, k = m + 1 := ⟨k - 1, by omega⟩
    have e1 : wrap64 ((i : Int) + 1) = ((i + 1 : Nat) : Int) := by rw [wrap64_id _ (by omega) (by omega)]; omega
    have q0 : wrap64 (b + 2 * (i : Int) + 1) = b + 2 * (i : Int) + 1 := by rw [wrap64_id _ (by omega) (by omega)]
    have q1 : wrap64 (b + 2 * (i : Int) + 1 + 1) = b + 2 * ((i + 1 : Nat) : Int) := by rw [wrap64_id _ (by omega) (by omega)]; omega
    have w1 : IntKind.u64.wrap (b + 2 * (i : Int) + 1) = b + 2 * (i : Int) + 1 := u64_id _ (by omega) (by omega)
    simp only [laws_heldNodeS.l0]
    rewrite [if_pos (by rw [mkNode_len]; omega), if_pos (by omega), mkNode_at b n i (by omega), q0, q1, w1]
    rewrite [if_pos (by rfl), if_pos (by rfl), e1]
    exact ih (i + 1) k (by omega) (by omega)
theorem heldNode_val (k : Nat) (b : Int) (hb : 0 ≤ b) (hb2 : b ≤ 100000000) (n : Nat) (hn : n ≤ 1048576) (hk : n < k) : laws_heldNodeS.f k (mkNode b n) b = some (b + 2 * (n : Int)) := by
  have := heldNode_loop b hb hb2 n hn n 0 k (by omega) hk
  unfold laws_heldNodeS.f
  simpa using this

end Go.Proofs.Ythageckjjbgonaa.Pure

namespace Go.Proofs.Ythageckjjbgonaa.Pure
open Go.RowKit Go.Proofs.Ythageckjjbgonaa.X Go.Proofs.YthageckjjbgonaaW.PrintWords Go.Proofs.YthageckjjbgonaaW.PrintLast Go.Proofs.YthageckjjbgonaaW.PrintMore Go.Proofs.Ythageckjjbgonaa.Bits
theorem rdInt_at {t : List Int} {i : Nat} (h : i < t.length) : rd t (i : Int) = t[i] := by
  unfold rd
  rw [Int.toNat_natCast, List.getD_eq_getElem?_getD, List.getElem?_eq_getElem h]; rfl
theorem eqInt_loop (l : List Int) (hl : l.length ≤ 1048576) (d : Nat) : ∀ (i : Nat) (k : Nat), i + d = l.length → d < k → laws_eqIntS.l0 k l l (i : Int) = some true := by
  induction d with
  | zero =>
    intro i k hi hk
    obtain ⟨k, rfl⟩ : ∃ m, k = m + 1 := ⟨k - 1, by omega⟩
    simp only [laws_eqIntS.l0]
    rw [if_neg (by omega)]
  | succ d ih =>
    intro i k hi hk
    obtain ⟨k, rfl⟩ : ∃ m, k = m + 1 := ⟨k - 1, by omega⟩
    have e1 : wrap64 ((i : Int) + 1) = ((i + 1 : Nat) : Int) := by rw [wrap64_id _ (by omega) (by omega)]; omega
    simp only [laws_eqIntS.l0]
    rewrite [if_pos (by omega), if_pos (by omega), if_pos (by omega)]
    rewrite [if_pos trivial]
    rewrite [e1]
    exact ih (i + 1) k (by omega) (by omega)
theorem eqInt_val (k : Nat) (l : List Int) (hl : l.length ≤ 1048576) (hk : l.length < k) : laws_eqIntS.f k l l = some true := by
  unfold laws_eqIntS.f
  rw [if_pos rfl]
  exact eqInt_loop l hl l.length 0 k (by omega) hk
/-- A list of n elements, numbered on from m. -/
def mkInt (m : Int) : Nat → List Int
  | 0 => []
  | n + 1 => m :: mkInt (m + 1) n
theorem mkInt_len (n : Nat) : ∀ m, (mkInt m n).length = n := by
  induction n with
  | zero => intro m; rfl
  | succ n ih => intro m; simp [mkInt, ih]
theorem mkInt_snoc (n : Nat) : ∀ m, mkInt m (n + 1) = mkInt m n ++ [m + 1 * (n : Int)] := by
  induction n with
  | zero => intro m; simp [mkInt]
  | succ n ih =>
    intro m
    rw [mkInt, ih (m + 1), mkInt, List.cons_append]
    have : m + 1 + 1 * (n : Int) = m + 1 * ((n + 1 : Nat) : Int) := by omega
    rw [this]
theorem mkInt_at (m : Int) (n i : Nat) (h : i < n) : rd (mkInt m n) (i : Int) = m + 1 * (i : Int) := by
  induction n generalizing m i with
  | zero => omega
  | succ n ih =>
    cases i with
    | zero => simp [rd, mkInt]
    | succ i =>
      have := ih (m + 1) i (by omega)
      unfold rd at this ⊢
      rw [Int.toNat_natCast] at this ⊢
      rw [mkInt, List.getD_cons_succ, this]
      have e : m + 1 + 1 * (i : Int) = m + 1 * ((i + 1 : Nat) : Int) := by omega
      rw [e]
theorem markInt_loop (b : Int) (hb : 0 ≤ b) (hb2 : b ≤ 100000000) (l : List Int) (hl : l.length ≤ 1048576) (d : Nat) : ∀ (i k : Nat), i + d = l.length → d < k →
    laws_markIntS.l0 k (mkInt b i ++ l.drop i) (b + 1 * (i : Int)) (i : Int) = some (b + 1 * (l.length : Int), mkInt b l.length) := by
  induction d with
  | zero =>
    intro i k hi hk
    obtain ⟨k, rfl⟩ : ∃ m, k = m + 1 := ⟨k - 1, by omega⟩
    obtain rfl : i = l.length := by omega
    simp only [laws_markIntS.l0]
    rw [if_neg (by simp [mkInt_len]), List.drop_eq_nil_of_le (by omega), List.append_nil]
  | succ d ih =>
    intro i k hi hk
    obtain ⟨k, rfl⟩ : ∃ m, k = m + 1 := ⟨k - 1, by omega⟩
    have hit : i < l.length := by omega
    have e1 : wrap64 ((i : Int) + 1) = ((i + 1 : Nat) : Int) := by rw [wrap64_id _ (by omega) (by omega)]; omega
    have q0 : wrap64 (b + 1 * (i : Int) + 1) = b + 1 * ((i + 1 : Nat) : Int) := by rw [wrap64_id _ (by omega) (by omega)]; omega
    have hd : l.drop i = l[i] :: l.drop (i + 1) := List.drop_eq_getElem_cons hit
    have hset : ∀ y z : Int, (mkInt b i ++ y :: l.drop (i + 1)).set i z = mkInt b i ++ z :: l.drop (i + 1) := fun y z => set_mid _ _ _ _ _ (by rw [mkInt_len])
    simp only [laws_markIntS.l0]
    rewrite [if_pos (by simp [mkInt_len]; omega), if_pos (by omega)]
    (try simp only [Option.bind_some])
    rewrite [hd, Int.toNat_natCast, hset, e1, q0]
    have := ih (i + 1) k (by omega) (by omega)
    rw [mkInt_snoc, List.append_assoc] at this
    exact this
theorem markInt_val (k : Nat) (b : Int) (hb : 0 ≤ b) (hb2 : b ≤ 100000000) (l : List Int) (hl : l.length ≤ 1048576) (hk : l.length < k) : laws_markIntS.f k l b = some (b + 1 * (l.length : Int), mkInt b l.length) := by
  have := markInt_loop b hb hb2 l hl l.length 0 k (by omega) hk
  unfold laws_markIntS.f
  simpa [mkInt] using this
theorem heldInt_loop (b : Int) (hb : 0 ≤ b) (hb2 : b ≤ 100000000) (n : Nat) (hn : n ≤ 1048576) (d : Nat) : ∀ (i k : Nat), i + d = n → d < k →
    laws_heldIntS.l0 k (mkInt b n) (b + 1 * (i : Int)) (i : Int) = some (b + 1 * (n : Int)) := by
  induction d with
  | zero =>
    intro i k hi hk
    obtain ⟨k, rfl⟩ : ∃ m, k = m + 1 := ⟨k - 1, by omega⟩
    obtain rfl : i = n := by omega
    simp only [laws_heldIntS.l0]
    rw [if_neg (by rw [mkInt_len]; omega)]
  | succ d ih =>
    intro i k hi hk
    obtain ⟨k, rfl⟩ : ∃ m, k = m + 1 := ⟨k - 1, by omega⟩
    have e1 : wrap64 ((i : Int) + 1) = ((i + 1 : Nat) : Int) := by rw [wrap64_id _ (by omega) (by omega)]; omega
    have q0 : wrap64 (b + 1 * (i : Int) + 1) = b + 1 * ((i + 1 : Nat) : Int) := by rw [wrap64_id _ (by omega) (by omega)]; omega
    simp only [laws_heldIntS.l0]
    rewrite [if_pos (by rw [mkInt_len]; omega), if_pos (by omega), mkInt_at b n i (by omega), q0]
    rewrite [if_pos (by rfl), e1]
    exact ih (i + 1) k (by omega) (by omega)
theorem heldInt_val (k : Nat) (b : Int) (hb : 0 ≤ b) (hb2 : b ≤ 100000000) (n : Nat) (hn : n ≤ 1048576) (hk : n < k) : laws_heldIntS.f k (mkInt b n) b = some (b + 1 * (n : Int)) := by
  have := heldInt_loop b hb hb2 n hn n 0 k (by omega) hk
  unfold laws_heldIntS.f
  simpa using this
end Go.Proofs.Ythageckjjbgonaa.Pure

namespace Go.Proofs.Ythageckjjbgonaa.Pure
open Go.RowKit Go.Proofs.Ythageckjjbgonaa.X Go.Proofs.YthageckjjbgonaaW.PrintWords Go.Proofs.YthageckjjbgonaaW.PrintLast Go.Proofs.Ythageckjjbgonaa.Bits
def rising (l : List Int) : Prop := l.Pairwise (· < ·)
theorem rising_eq : ∀ (a b : List Int), rising a → rising b → (∀ x, x ∈ a ↔ x ∈ b) → a = b
  | [], [], _, _, _ => rfl
  | [], y :: b, _, _, h => absurd ((h y).2 (List.mem_cons_self ..)) (by simp)
  | x :: a, [], _, _, h => absurd ((h x).1 (List.mem_cons_self ..)) (by simp)
  | x :: a, y :: b, ha, hb, h => by
    obtain ⟨a1, a2⟩ := List.pairwise_cons.1 ha
    obtain ⟨b1, b2⟩ := List.pairwise_cons.1 hb
    have hxy : x = y := by
      rcases List.mem_cons.1 ((h x).1 (List.mem_cons_self ..)) with h1 | h1
      · exact h1
      · rcases List.mem_cons.1 ((h y).2 (List.mem_cons_self ..)) with h2 | h2
        · exact h2.symm
        · have := a1 y h2
          have := b1 x h1
          omega
    subst hxy
    congr 1
    refine rising_eq a b a2 b2 fun z => ⟨fun hz => ?_, fun hz => ?_⟩
    · rcases List.mem_cons.1 ((h z).1 (List.mem_cons_of_mem _ hz)) with h1 | h1
      · have := a1 z hz; omega
      · exact h1
    · rcases List.mem_cons.1 ((h z).2 (List.mem_cons_of_mem _ hz)) with h1 | h1
      · have := b1 z hz; omega
      · exact h1
/-- A number put to its place, once. -/
def putS (n : Int) : List Int → List Int
  | [] => [n]
  | a :: t => if a < n then a :: putS n t else if a = n then a :: t else n :: a :: t
theorem putS_mem (n x : Int) (l : List Int) : x ∈ putS n l ↔ x = n ∨ x ∈ l := by
  induction l with
  | nil => simp [putS]
  | cons a t ih =>
    unfold putS
    split
    · rw [List.mem_cons, ih, List.mem_cons]; constructor <;> (rintro (h | h | h) <;> simp [h])
    · split
      · rename_i h; subst h; simp
      · simp
theorem putS_rising (n : Int) (l : List Int) (h : rising l) : rising (putS n l) := by
  induction l with
  | nil => simp [putS, rising]
  | cons a t ih =>
    obtain ⟨h1, h2⟩ := List.pairwise_cons.1 h
    unfold putS
    split
    · rename_i hlt
      refine List.pairwise_cons.2 ⟨fun y hy => ?_, ih h2⟩
      rcases (putS_mem n y t).1 hy with rfl | hy
      · exact hlt
      · exact h1 y hy
    · split
      · exact h
      · rename_i h3 h4
        refine List.pairwise_cons.2 ⟨fun y hy => ?_, h⟩
        rcases List.mem_cons.1 hy with rfl | hy
        · omega
        · have := h1 y hy; omega
theorem putS_len (n : Int) (l : List Int) : (putS n l).length ≤ l.length + 1 := by
  induction l with
  | nil => simp [putS]
  | cons a t ih => unfold putS; split; · simp; omega
                   · split <;> simp
def putAllS (l : List Int) (acc : List Int) : List Int := l.foldl (fun s n => putS n s) acc
theorem putAllS_rising (l : List Int) : ∀ acc, rising acc → rising (putAllS l acc) := by
  induction l with
  | nil => intro acc h; exact h
  | cons a t ih => intro acc h; exact ih _ (putS_rising a acc h)
theorem putAllS_mem (l : List Int) (x : Int) : ∀ acc, x ∈ putAllS l acc ↔ x ∈ l ∨ x ∈ acc := by
  induction l with
  | nil => intro acc; simp [putAllS]
  | cons a t ih =>
    intro acc
    show x ∈ putAllS t (putS a acc) ↔ _
    rw [ih, putS_mem, List.mem_cons]
    constructor
    · rintro (h | h | h) <;> simp [h]
    · rintro ((h | h) | h) <;> simp [h]
theorem putAllS_len (l : List Int) : ∀ acc, (putAllS l acc).length ≤ l.length + acc.length := by
  induction l with
  | nil => intro acc; simp [putAllS]
  | cons a t ih =>
    intro acc
    have h := ih (putS a acc)
    have h2 := putS_len a acc
    show (putAllS t (putS a acc)).length ≤ _
    rw [List.length_cons]; omega
theorem compact_sorted (d : Array Int) (hs : ∀ i j, i ≤ j → j < d.size → d[i]! ≤ d[j]!) (m : Nat) (hm : m ≤ d.size) : rising (Lib.compactUpTo d m) ∧ ∀ x, x ∈ Lib.compactUpTo d m ↔ ∃ j, j < m ∧ d[j]! = x := by
  induction m with
  | zero => exact ⟨by simp [Lib.compactUpTo, rising], fun x => by simp [Lib.compactUpTo]⟩
  | succ m ih =>
    obtain ⟨h1, h2⟩ := ih (by omega)
    rw [Lib.compactUpTo_succ]
    by_cases hk : Lib.keeps d m = true
    · rw [if_pos hk]
      refine ⟨List.pairwise_append.2 ⟨h1, by simp, fun x hx y hy => ?_⟩, fun x => ?_⟩
      · obtain rfl := List.mem_singleton.1 hy
        obtain ⟨j, hj, rfl⟩ := (h2 x).1 hx
        have h3 := hs j (m - 1) (by omega) (by omega)
        have h4 := hs (m - 1) m (by omega) (by omega)
        have h5 : d[m]! ≠ d[m - 1]! := by
          unfold Lib.keeps at hk
          simp only [decide_eq_true_eq] at hk
          rcases hk with h0 | h0
          · omega
          · exact h0
        omega
      · rw [List.mem_append, h2, List.mem_singleton]
        constructor
        · rintro (⟨j, hj, rfl⟩ | rfl)
          · exact ⟨j, by omega, rfl⟩
          · exact ⟨m, by omega, rfl⟩
        · rintro ⟨j, hj, rfl⟩
          by_cases hjm : j = m
          · subst hjm; exact .inr rfl
          · exact .inl ⟨j, by omega, rfl⟩
    · rw [if_neg hk, List.append_nil]
      refine ⟨h1, fun x => ?_⟩
      rw [h2]
      have h5 : m ≠ 0 ∧ d[m]! = d[m - 1]! := by
        unfold Lib.keeps at hk
        simp only [decide_eq_true_eq, not_or, Decidable.not_not] at hk
        exact hk
      constructor
      · rintro ⟨j, hj, rfl⟩; exact ⟨j, by omega, rfl⟩
      · rintro ⟨j, hj, rfl⟩
        by_cases hjm : j = m
        · subst hjm; exact ⟨j - 1, by omega, h5.2.symm⟩
        · exact ⟨j, by omega, rfl⟩
/-- Sorting and compacting is putting each to its place. -/
theorem compact_sort (l : List Int) : Lib.compact (l.mergeSort fun x y => decide (x ≤ y)) = putAllS l [] := by
  obtain ⟨s, hs⟩ : ∃ s, (l.mergeSort fun x y => decide (x ≤ y)) = s := ⟨_, rfl⟩
  have hp : s.Perm l := by rw [← hs]; exact List.mergeSort_perm l _
  have ho : s.Pairwise (fun x y => decide (x ≤ y) = true) := by
    rw [← hs]
    exact List.pairwise_mergeSort (fun a b c h1 h2 => by simp only [decide_eq_true_eq] at *; omega) (fun a b => by simp only [Bool.or_eq_true, decide_eq_true_eq]; omega) l
  rw [hs]
  unfold Lib.compact
  have hd : ∀ i j, i ≤ j → j < s.toArray.size → s.toArray[i]! ≤ s.toArray[j]! := by
    intro i j hij hj
    have hj' : j < s.length := by simpa using hj
    have e1 : s.toArray[i]! = s[i]'(by omega) := by rw [getElem!_pos s.toArray i (by simp; omega)]; rfl
    have e2 : s.toArray[j]! = s[j] := by rw [getElem!_pos s.toArray j hj]; rfl
    rw [e1, e2]
    rcases Nat.lt_or_ge i j with h | h
    · have := List.pairwise_iff_getElem.1 ho i j (by omega) hj' h
      simpa using this
    · obtain rfl : i = j := by omega
      exact Int.le_refl _
  obtain ⟨h1, h2⟩ := compact_sorted s.toArray hd s.length (by simp)
  refine rising_eq _ _ h1 (putAllS_rising l [] (by simp [rising])) fun x => ?_
  rw [h2, putAllS_mem]
  constructor
  · rintro ⟨j, hj, rfl⟩
    left
    rw [getElem!_pos s.toArray j (by simpa using hj)]
    exact hp.mem_iff.1 (by simp)
  · rintro (h | h)
    · obtain ⟨j, hj, rfl⟩ := List.getElem_of_mem (hp.mem_iff.2 h)
      exact ⟨j, hj, by rw [getElem!_pos s.toArray j (by simpa using hj)]; rfl⟩
    · exact absurd h (by simp)
theorem put_loop (l : List Int) (hl : l.length ≤ 1000) (n : Int) (d : Nat) : ∀ (i k : Nat), i + d = l.length → d < k → spec_l1Put.l0 k l n (i : Int) = some (l.take i ++ putS n (l.drop i)) := by
  induction d with
  | zero =>
    intro i k hi hk
    obtain ⟨k, rfl⟩ : ∃ m, k = m + 1 := ⟨k - 1, by omega⟩
    simp only [spec_l1Put.l0, Option.bind_some, List.length_nil, List.nil_append]
    rewrite [if_neg (by omega), if_pos (by omega), if_pos (by omega), Int.toNat_natCast, if_pos (by rw [List.length_take]; omega), if_pos (by rw [List.length_take]; omega), if_pos (by simp only [List.length_append, List.length_take, List.length_drop, List.length_cons, List.length_nil]; omega), List.drop_eq_nil_of_le (by omega), List.append_nil]
    rfl
  | succ d ih =>
    intro i k hi hk
    obtain ⟨k, rfl⟩ : ∃ m, k = m + 1 := ⟨k - 1, by omega⟩
    have hit : i < l.length := by omega
    have e1 : wrap64 ((i : Int) + 1) = ((i + 1 : Nat) : Int) := by rw [wrap64_id _ (by omega) (by omega)]; omega
    have hd : l.drop i = l[i] :: l.drop (i + 1) := List.drop_eq_getElem_cons hit
    have ht : l.take (i + 1) = l.take i ++ [l[i]] := by rw [List.take_add_one, List.getElem?_eq_getElem hit]; rfl
    simp only [spec_l1Put.l0, Option.bind_some, List.length_nil, List.nil_append]
    rewrite [if_pos (by omega), if_pos (by omega), rdInt_at hit, hd]
    unfold putS
    by_cases h1 : l[i] < n
    · rewrite [if_pos h1, e1, ih (i + 1) k (by omega) (by omega), ht, if_pos h1, List.append_assoc]
      rfl
    · rewrite [if_neg h1, if_neg h1]
      by_cases h2 : l[i] = n
      · rewrite [if_pos h2, if_pos h2, ← hd, List.take_append_drop]; rfl
      · rewrite [if_neg h2, if_neg h2, if_pos (by omega), Int.toNat_natCast]
        rewrite [if_pos (by rw [List.length_take]; omega), if_pos (by rw [List.length_take]; omega), if_pos (by simp only [List.length_append, List.length_take, List.length_drop, List.length_cons, List.length_nil]; omega), hd]
        simp
theorem put_val (l : List Int) (hl : l.length ≤ 1000) (n : Int) (k : Nat) (hk : l.length < k) : spec_l1Put.f k l n = some (putS n l) := by
  have := put_loop l hl n l.length 0 k (by omega) hk
  rw [List.take_zero, List.drop_zero, List.nil_append] at this
  exact this
theorem varsAt_cons (x : Nd) (t : List Nd) : varsAt (x :: t) = if x.f0 = 2 then wrap64 x.f1 :: varsAt t else varsAt t := by
  unfold varsAt
  by_cases h : x.f0 = 2
  · rw [if_pos h, List.filter_cons_of_pos (by simpa using h)]; rfl
  · rw [if_neg h, List.filter_cons_of_neg (by simpa using h)]
theorem vars_loop (t : List Nd) (ht : t.length ≤ 48) (d : Nat) : ∀ (i k : Nat) (acc : List Int), i + d = t.length → acc.length ≤ i → d + 60 < k →
    spec_l2Vars.l0 k acc t (t.length : Int) (i : Int) = some (putAllS (varsAt (t.drop i)) acc) := by
  induction d with
  | zero =>
    intro i k acc hi ha hk
    obtain ⟨k, rfl⟩ : ∃ m, k = m + 1 := ⟨k - 1, by omega⟩
    simp only [spec_l2Vars.l0]
    rewrite [if_neg (by omega), List.drop_eq_nil_of_le (by omega)]
    rfl
  | succ d ih =>
    intro i k acc hi ha hk
    obtain ⟨k, rfl⟩ : ∃ m, k = m + 1 := ⟨k - 1, by omega⟩
    have hit : i < t.length := by omega
    have e1 : wrap64 ((i : Int) + 1) = ((i + 1 : Nat) : Int) := by rw [wrap64_id _ (by omega) (by omega)]; omega
    have hd : t.drop i = t[i] :: t.drop (i + 1) := List.drop_eq_getElem_cons hit
    simp only [spec_l2Vars.l0]
    rewrite [if_pos (by omega), if_pos (by omega), if_pos (by omega), rd_at hit, hd, varsAt_cons]
    by_cases h : t[i].f0 = 2
    · have hl := putS_len (wrap64 t[i].f1) acc
      rewrite [if_pos h, if_pos h, put_val acc (by omega) _ k (by omega)]
      simp only [Option.bind_some]
      rewrite [e1, ih (i + 1) k _ (by omega) (by omega) (by omega)]
      rfl
    · rewrite [if_neg h, if_neg h, e1, ih (i + 1) k _ (by omega) (by omega) (by omega)]
      rfl
theorem vars_spec (t : List Nd) (ht : t.length ≤ 48) (k : Nat) (hk : 120 < k) : spec_l2Vars.f k t = some (putAllS (varsAt t) []) := by
  have := vars_loop t ht t.length 0 k [] (by omega) (by simp) (by omega)
  rw [List.drop_zero] at this
  exact this
theorem vars_impl (t : List Nd) (ht : t.length ≤ 48) : impl_varsIn.f t = some (putAllS (varsAt t) []) := by
  unfold impl_varsIn.f
  rw [if_pos (by omega), compact_sort]
/-- What VarsIn returns. -/
def varsR (w v : Int) (t : List Nd) : List Int × Bool := if kindT w v t > 0 then (putAllS (varsAt t) [], true) else ([], false)
theorem varsR_len (w v : Int) (t : List Nd) : (varsR w v t).1.length ≤ 48 := by
  unfold varsR
  split
  · rename_i h
    have h1 := (kindT_len w v t h).1
    have h2 := putAllS_len (varsAt t) []
    have h3 := varsAt_len t
    simp only [List.length_nil] at h2 ⊢
    omega
  · simp
theorem VarsIn_both (k : Nat) (w v : Int) (t : List Nd) (hok : okNodes t) (hk : 600 < k) : spec_VarsIn.f k w v t = some (varsR w v t) ∧ impl_VarsIn.f k w v t = some (varsR w v t) := by
  unfold spec_VarsIn.f impl_VarsIn.f varsR
  rewrite [goodTerm_spec k w v t hok (by omega), goodTerm_impl k w v t hok (by omega)]
  simp only [Option.bind_some, decide_eq_true_eq]
  by_cases hg : kindT w v t > 0
  · have hl := (kindT_len w v t hg).1
    rewrite [if_pos hg, if_pos hg, if_pos hg, vars_spec t hl k (by omega), vars_impl t hl]
    exact ⟨rfl, rfl⟩
  · rewrite [if_neg hg, if_neg hg, if_neg hg]
    exact ⟨rfl, rfl⟩
theorem FnExactVarsIn : laws_FnExactVarsIn.Pure := by
  intro w v l _ _ hl
  have hlen := hl.1
  simp only [maxLen] at hlen
  refine ⟨l.length + 2000 + 3, ?_⟩
  obtain ⟨q, hq⟩ : ∃ q, l.length + 2000 = q := ⟨_, rfl⟩
  rw [hq]
  unfold laws_FnExactVarsIn.f
  rewrite [sz_val l hlen]
  simp only [Option.bind_some]
  by_cases hs : 1048576 < l.length
  · rw [if_pos hs, if_pos (by decide)]
  · have hok := conv_ok l hl.2
    have hcl : (l.map conv).length = l.length := by simp
    rewrite [if_neg hs, if_neg (by omega), toNodes_val _ l (by omega) (by omega)]
    simp only [Option.bind_some]
    rewrite [(VarsIn_both _ w v _ hok (by omega)).1, (VarsIn_both _ w v _ hok (by omega)).2]
    obtain ⟨g, b, hres⟩ : ∃ g b, varsR w v (l.map conv) = (g, b) := ⟨_, _, rfl⟩
    have hgl := varsR_len w v (l.map conv)
    rw [hres] at hgl
    simp only at hgl
    simp only [Option.bind_some, hres]
    rewrite [eqInt_val _ g (by omega) (by omega)]
    have hbb : (b != b) = false := by simp
    simp only [Option.bind_some, if_true, laws_FnExactVarsIn.j0, hbb, Bool.false_eq_true, if_false]
    rewrite [toNodes_val _ l (by omega) (by omega)]
    simp only [Option.bind_some]
    rewrite [eqNodes_val _ (l.map conv) (by omega) (by omega)]
    simp only [Option.bind_some, if_true]
    rewrite [markNode_val _ 1 (by omega) (by omega) (l.map conv) (by omega) (by omega)]
    simp only [Option.bind_some]
    rewrite [if_neg (by omega), eqInt_val _ g (by omega) (by omega)]
    simp only [Option.bind_some, if_true, laws_FnExactVarsIn.j1, Bool.false_eq_true, if_false]
    rewrite [markInt_val _ 1 (by omega) (by omega) g (by omega) (by omega)]
    simp only [Option.bind_some]
    rewrite [heldInt_val _ 1 (by omega) (by omega) g.length (by omega) (by omega)]
    simp only [Option.bind_some]
    rewrite [if_neg (by omega), toNodes_val _ l (by omega) (by omega)]
    simp only [Option.bind_some, if_true]
    rewrite [(VarsIn_both _ w v _ hok (by omega)).2, hres]
    simp only [Option.bind_some]
    rewrite [eqInt_val _ g (by omega) (by omega)]
    simp only [Option.bind_some, if_true, laws_FnExactVarsIn.j2, hbb, Bool.false_eq_true, if_false]
    rewrite [heldInt_val _ 1 (by omega) (by omega) g.length (by omega) (by omega)]
    simp only [Option.bind_some]
    rewrite [if_neg (by omega)]
    rfl
end Go.Proofs.Ythageckjjbgonaa.Pure
