/- Lists of nodes written over and looked at again; and the law on TurnTerm. Conditions: those of the law's own Pure. -/
import Derived.Test.YthageckjjbgonaaNodes
import Derived.Test.YthageckjjbgonaaX17
import Derived.Test.YthageckjjbgonaaX18
namespace Go.Proofs.Ythageckjjbgonaa.Pure
open Go.RowKit Go.Proofs.Ythageckjjbgonaa.X Go.Proofs.YthageckjjbgonaaW.PrintWords Go.Proofs.YthageckjjbgonaaW.PrintLast Go.Proofs.Ythageckjjbgonaa.Bits

/-- A list of n nodes, numbered on from m. -/
def marked (m : Int) : Nat → List Nd
  | 0 => []
  | n + 1 => ⟨m, m + 1⟩ :: marked (m + 2) n
theorem marked_len (n : Nat) : ∀ m, (marked m n).length = n := by
  induction n with
  | zero => intro m; rfl
  | succ n ih => intro m; simp [marked, ih]
theorem marked_snoc (n : Nat) : ∀ m, marked m (n + 1) = marked m n ++ [⟨m + 2 * n, m + 2 * n + 1⟩] := by
  induction n with
  | zero => intro m; simp [marked]
  | succ n ih =>
    intro m
    rw [marked, ih (m + 2), marked, List.cons_append]
    have : m + 2 + 2 * (n : Int) = m + 2 * ((n + 1 : Nat) : Int) := by omega
    rw [this]
theorem marked_at (m : Int) (n i : Nat) (h : i < n) : rd_T47 (marked m n) (i : Int) = ⟨m + 2 * i, m + 2 * i + 1⟩ := by
  induction n generalizing m i with
  | zero => omega
  | succ n ih =>
    cases i with
    | zero => simp [rd_T47, marked]
    | succ i =>
      have := ih (m + 2) i (by omega)
      unfold rd_T47 at this ⊢
      rw [Int.toNat_natCast] at this ⊢
      rw [marked, List.getD_cons_succ, this]
      have e : m + 2 + 2 * (i : Int) = m + 2 * ((i + 1 : Nat) : Int) := by omega
      rw [e]
theorem mark_loop (l : List Nd) (hl : l.length ≤ 1048576) (d : Nat) : ∀ (i k : Nat), i + d = l.length → d < k →
    laws_markNodeS.l0 k (marked 1 i ++ l.drop i) (1 + 2 * (i : Int)) (i : Int) = some (1 + 2 * (l.length : Int), marked 1 l.length) := by
  induction d with
  | zero =>
    intro i k hi hk
    obtain ⟨k, rfl⟩ : ∃ m, k = m + 1 := ⟨k - 1, by omega⟩
    obtain rfl : i = l.length := by omega
    simp only [laws_markNodeS.l0]
    rw [if_neg (by simp [marked_len]), List.drop_eq_nil_of_le (by omega), List.append_nil]
  | succ d ih =>
    intro i k hi hk
    obtain ⟨k, rfl⟩ : ∃ m, k = m + 1 := ⟨k - 1, by omega⟩
    have hit : i < l.length := by omega
    have e1 : wrap64 ((i : Int) + 1) = ((i + 1 : Nat) : Int) := by rw [wrap64_id _ (by omega) (by omega)]; omega
    have e2 : wrap64 (1 + 2 * (i : Int) + 1) = 1 + 2 * (i : Int) + 1 := wrap64_id _ (by omega) (by omega)
    have e3 : wrap64 (1 + 2 * (i : Int) + 1 + 1) = 1 + 2 * ((i + 1 : Nat) : Int) := by rw [wrap64_id _ (by omega) (by omega)]; omega
    have e4 : IntKind.u64.wrap (1 + 2 * (i : Int) + 1) = 1 + 2 * (i : Int) + 1 := u64_id _ (by omega) (by omega)
    have hd : l.drop i = l[i] :: l.drop (i + 1) := List.drop_eq_getElem_cons hit
    have hset : ∀ y z : Nd, (marked 1 i ++ y :: l.drop (i + 1)).set i z = marked 1 i ++ z :: l.drop (i + 1) := fun y z => set_mid _ _ _ _ _ (by rw [marked_len])
    have hrd : ∀ y : Nd, rd_T47 (marked 1 i ++ y :: l.drop (i + 1)) (i : Int) = y := by
      intro y
      rw [rd_at (by simp [marked_len]), List.getElem_append_right (by rw [marked_len]; omega)]
      simp [marked_len]
    simp only [laws_markNodeS.l0]
    rewrite [if_pos (by simp [marked_len]; omega), if_pos (by omega)]
    simp only [Option.bind_some]
    rewrite [hd, Int.toNat_natCast, hset, hset, hrd, hrd, e1, e2, e3, e4]
    have := ih (i + 1) k (by omega) (by omega)
    rw [marked_snoc, List.append_assoc] at this
    exact this
theorem mark_val (k : Nat) (l : List Nd) (hl : l.length ≤ 1048576) (hk : l.length < k) : laws_markNodeS.f k l 1 = some (1 + 2 * (l.length : Int), marked 1 l.length) := by
  have := mark_loop l hl l.length 0 k (by omega) hk
  unfold laws_markNodeS.f
  simpa [marked] using this
theorem held_loop (n : Nat) (hn : n ≤ 1048576) (d : Nat) : ∀ (i k : Nat), i + d = n → d < k →
    laws_heldNodeS.l0 k (marked 1 n) (1 + 2 * (i : Int)) (i : Int) = some (1 + 2 * (n : Int)) := by
  induction d with
  | zero =>
    intro i k hi hk
    obtain ⟨k, rfl⟩ : ∃ m, k = m + 1 := ⟨k - 1, by omega⟩
    obtain rfl : i = n := by omega
    simp only [laws_heldNodeS.l0]
    rw [if_neg (by rw [marked_len]; omega)]
  | succ d ih =>
    intro i k hi hk
    obtain ⟨k, rfl⟩ : ∃ m, k = m + 1 := ⟨k - 1, by omega⟩
    have e1 : wrap64 ((i : Int) + 1) = ((i + 1 : Nat) : Int) := by rw [wrap64_id _ (by omega) (by omega)]; omega
    have e2 : wrap64 (1 + 2 * (i : Int) + 1) = 1 + 2 * (i : Int) + 1 := wrap64_id _ (by omega) (by omega)
    have e3 : wrap64 (1 + 2 * (i : Int) + 1 + 1) = 1 + 2 * ((i + 1 : Nat) : Int) := by rw [wrap64_id _ (by omega) (by omega)]; omega
    have e4 : IntKind.u64.wrap (1 + 2 * (i : Int) + 1) = 1 + 2 * (i : Int) + 1 := u64_id _ (by omega) (by omega)
    simp only [laws_heldNodeS.l0]
    rewrite [if_pos (by rw [marked_len]; omega), if_pos (by omega), marked_at 1 n i (by omega)]
    rewrite [if_pos rfl, e2, e4, if_pos rfl, e3, e1]
    exact ih (i + 1) k (by omega) (by omega)
theorem held_val (k n : Nat) (hn : n ≤ 1048576) (hk : n < k) : laws_heldNodeS.f k (marked 1 n) 1 = some (1 + 2 * (n : Int)) := by
  have := held_loop n hn n 0 k (by omega) hk
  unfold laws_heldNodeS.f
  simpa using this
/-- A node of one operand over a good term. -/
theorem kindT_turn (w v op : Int) (t : List Nd) (h1 : (need op).1 = 1) (h : kindT w v (t ++ [⟨op, 0⟩]) > 0) : kindT w v t = (need op).2.1 := by
  have hl := h
  unfold kindT at h ⊢
  split at h
  · rename_i hc
    rw [runK_append] at h
    cases h2 : runK w v t [] with
    | none => rw [h2] at h; simp [top] at h
    | some s =>
      rw [h2] at h
      simp only [Option.bind_some, runK] at h
      cases h3 : stepK w v s ⟨op, 0⟩ with
      | none => rw [h3] at h; simp [top] at h
      | some s2 =>
        rw [h3] at h
        simp only [Option.bind_some] at h
        unfold stepK at h3
        simp only [h1] at h3
        split at h3
        · cases h3
        · split at h3
          · split at h3
            · cases h3
            · split at h3
              · rename_i hlen hall
                obtain rfl := Option.some.inj h3
                match s with
                | [] => simp at hlen
                | a :: s =>
                  simp only [Int.toNat_one, List.take_succ_cons, List.take_zero, List.all_cons, List.all_nil, Bool.and_true, beq_iff_eq] at hall
                  match s with
                  | [] =>
                    have hc2 : 1 ≤ t.length := by
                      have := runK_len w v t [] [a] h2
                      simpa using this
                    rw [if_pos (by simp only [List.length_append, List.length_cons, List.length_nil] at hc; omega)]
                    exact hall
                  | b :: r => simp [top] at h
              · cases h3
          · cases h3
  · exact absurd h (by decide)
/-- What TurnTerm returns. -/
def turned (w v op : Int) (t : List Nd) : List Nd × Bool :=
  if (op = 13 ∨ op = 19) ∧ kindT w v t > 0 ∧ kindT w v (t ++ [⟨op, 0⟩]) > 0 then (t ++ [⟨op, 0⟩], true) else ([], false)
theorem snoc_ok (t : List Nd) (op : Int) (h : okNodes t) : okNodes (t ++ [⟨op, 0⟩]) := by
  intro x hx
  rcases List.mem_append.1 hx with hx | hx
  · exact h x hx
  · obtain rfl := List.mem_singleton.1 hx
    exact ⟨Int.le_refl 0, (by decide : (0 : Int) < 18446744073709551616)⟩
theorem need_turn (op : Int) : ((need op).1 = 1 ↔ op = 13 ∨ op = 19) ∧ ((need op).1 = 1 → (need op).2.1 > 0) := by
  have key : need op = if op = 1 ∨ op = 2 then (0, 1, 1) else if op = 20 then (0, 2, 2) else if op = 13 then (1, 1, 1) else if op = 19 then (1, 2, 2)
    else if 3 ≤ op ∧ op ≤ 12 then (2, 1, 1) else if 14 ≤ op ∧ op ≤ 16 then (2, 1, 2) else if op = 17 ∨ op = 18 then (2, 2, 2) else (0, 0, 0) := by unfold need; rfl
  rw [key]
  (repeat' split) <;> constructor <;> first | (simp; omega) | simp
theorem turn_spec (k : Nat) (w v op : Int) (t : List Nd) (hok : okNodes t) (ht : t.length ≤ 1048576) (hk : 400 < k) : spec_TurnTerm.f k w v op t = some (turned w v op t) := by
  unfold spec_TurnTerm.f turned
  rewrite [need_spec _ _ (by omega)]
  simp only [Option.bind_some]
  by_cases h1 : (need op).1 = 1
  · rewrite [if_pos h1, l2Kind_val k w v t hok hk]
    simp only [Option.bind_some, List.nil_append, List.length_nil]
    by_cases h2 : kindT w v t = (need op).2.1
    · rewrite [if_pos h2, if_pos (by omega), if_pos (by omega)]
      unfold spec_l2Made.f
      rewrite [goodTerm_spec k w v _ (snoc_ok t op hok) hk]
      simp only [Option.bind_some, decide_eq_true_eq]
      have h3 : kindT w v t > 0 := by rw [h2]; exact (need_turn op).2 h1
      by_cases h4 : kindT w v (t ++ [⟨op, 0⟩]) > 0
      · rewrite [if_pos h4, if_pos ⟨(need_turn op).1.1 h1, h3, h4⟩]; rfl
      · rewrite [if_neg h4, if_neg (fun h => h4 h.2.2)]; rfl
    · rewrite [if_neg h2, if_neg (fun h => h2 (kindT_turn w v op t h1 h.2.2))]; rfl
  · rewrite [if_neg h1, if_neg (fun h => h1 ((need_turn op).1.2 h.1))]; rfl
theorem turn_impl (k : Nat) (w v op : Int) (t : List Nd) (hok : okNodes t) (ht : t.length ≤ 1048576) (hk : 401 < k) : impl_TurnTerm.f k w v op t = some (turned w v op t) := by
  have hj : ∀ b : Bool, impl_TurnTerm.j0 k w v op t b = if b = true then some ([], false) else some (if kindT w v (t ++ [⟨op, 0⟩]) > 0 then (t ++ [⟨op, 0⟩], true) else ([], false)) := by
    intro b
    obtain ⟨k, rfl⟩ : ∃ m, k = m + 1 := ⟨k - 1, by omega⟩
    simp only [impl_TurnTerm.j0]
    unfold slices_Clone_impl_Node.f impl_checkedTerm.f
    simp only [Option.bind_some, List.nil_append, List.length_nil]
    cases b with
    | true => rfl
    | false =>
      simp only [Bool.false_eq_true, if_false]
      rewrite [if_pos (by omega)]
      simp only [Option.bind_some]
      rewrite [if_pos (by omega), goodTerm_impl k w v _ (snoc_ok t op hok) (by omega)]
      simp only [Option.bind_some, decide_eq_true_eq]
      by_cases h4 : kindT w v (t ++ [⟨op, 0⟩]) > 0
      · rewrite [if_pos h4, if_pos h4]; rfl
      · rewrite [if_neg h4, if_neg h4]; rfl
  unfold impl_TurnTerm.f turned
  rewrite [goodTerm_impl k w v t hok (by omega)]
  simp only [Option.bind_some]
  rewrite [hj, hj]
  by_cases h3 : kindT w v t > 0
  · rewrite [decide_eq_true h3]
    by_cases h4 : kindT w v (t ++ [⟨op, 0⟩]) > 0
    · by_cases h5 : op = 13
      · simp [h5, h3, h5 ▸ h4]
      · by_cases h6 : op = 19
        · simp [h6, h3, h6 ▸ h4]
        · simp [h5, h6]
    · simp [h4]
  · rewrite [decide_eq_false h3]
    simp [h3]
theorem turned_len (w v op : Int) (t : List Nd) : (turned w v op t).1.length ≤ t.length + 1 := by
  unfold turned
  split <;> simp
theorem FnExactTurnTerm : laws_FnExactTurnTerm.Pure := by
  intro w v op l _ _ _ hl
  have hlen := hl.1
  simp only [maxLen] at hlen
  refine ⟨rounds l, ?_⟩
  unfold laws_FnExactTurnTerm.f
  rewrite [sz_val l hlen]
  simp only [Option.bind_some]
  by_cases hs : 1048576 < l.length
  · rw [if_pos hs, if_pos (by decide)]
  · obtain ⟨q, hq⟩ : ∃ q, rounds l = q + 3 := ⟨rounds l - 3, by unfold rounds; omega⟩
    have hk : l.length < q := by unfold rounds at hq; omega
    have hk2 : 401 < q := by unfold rounds at hq; omega
    have hk3 : l.length + 1 < q := by unfold rounds at hq; omega
    have hok := conv_ok l hl.2
    have hcl : (l.map conv).length = l.length := by simp
    have hgl := turned_len w v op (l.map conv)
    -- the result is not longer than 2^20: a good term has at most 48 nodes
    have hg48 : (turned w v op (l.map conv)).1.length ≤ 48 := by
      unfold turned
      split
      · rename_i h
        have := h.2.2
        unfold kindT at this
        split at this
        · rename_i hc; exact hc.2.2.2.2.2
        · exact absurd this (by decide)
      · simp
    rewrite [hq]
    rewrite [if_neg hs, if_neg (by omega), toNodes_val _ l (by omega) (by omega)]
    simp only [Option.bind_some]
    rewrite [turn_spec _ w v op _ hok (by omega) (by omega), turn_impl _ w v op _ hok (by omega) (by omega)]
    obtain ⟨g, b, hres⟩ : ∃ g b, turned w v op (l.map conv) = (g, b) := ⟨_, _, rfl⟩
    rw [hres] at hg48 hgl
    simp only at hg48 hgl
    simp only [Option.bind_some, hres]
    rewrite [eqNodes_val _ g (by omega) (by omega)]
    simp only [Option.bind_some, if_true]
    have hbb : (b != b) = false := by simp
    simp only [laws_FnExactTurnTerm.j0, hbb, Bool.false_eq_true, if_false]
    rewrite [toNodes_val _ l (by omega) (by omega)]
    simp only [Option.bind_some]
    rewrite [eqNodes_val _ (l.map conv) (by omega) (by omega)]
    simp only [Option.bind_some, if_true]
    rewrite [mark_val _ (l.map conv) (by omega) (by omega)]
    simp only [Option.bind_some]
    rewrite [if_neg (by omega), eqNodes_val _ g (by omega) (by omega)]
    simp only [Option.bind_some, if_true, laws_FnExactTurnTerm.j1, Bool.false_eq_true, if_false]
    rewrite [mark_val _ g (by omega) (by omega)]
    simp only [Option.bind_some]
    rewrite [held_val _ g.length (by omega) (by omega)]
    simp only [Option.bind_some]
    rewrite [if_neg (by omega), toNodes_val _ l (by omega) (by omega)]
    simp only [Option.bind_some, if_true]
    rewrite [turn_impl _ w v op _ hok (by omega) (by omega), hres]
    simp only [Option.bind_some]
    rewrite [eqNodes_val _ g (by omega) (by omega)]
    simp only [Option.bind_some, if_true, laws_FnExactTurnTerm.j2, hbb, Bool.false_eq_true, if_false]
    rewrite [held_val _ g.length (by omega) (by omega)]
    simp only [Option.bind_some]
    rewrite [if_neg (by omega)]
    rfl
end Go.Proofs.Ythageckjjbgonaa.Pure
