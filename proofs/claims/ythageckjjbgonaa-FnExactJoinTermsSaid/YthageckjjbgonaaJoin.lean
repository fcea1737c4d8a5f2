/- The law on JoinTerms: the reference asks the operands' kinds, the program asks whether the joined term is good; both come to the same. Conditions: those of the law's own Pure. -/
import Derived.Test.YthageckjjbgonaaPlain
import Derived.Test.YthageckjjbgonaaMarksN
import Derived.Test.YthageckjjbgonaaX19
import Derived.Test.YthageckjjbgonaaX21
import Derived.Test.YthageckjjbgonaaX22
namespace Go.Proofs.Ythageckjjbgonaa.Pure
open Go.RowKit Go.Proofs.Ythageckjjbgonaa.X Go.Proofs.YthageckjjbgonaaW.PrintWords Go.Proofs.YthageckjjbgonaaW.PrintLast Go.Proofs.Ythageckjjbgonaa.Bits
theorem stepK_deep (w v : Int) (st st' u : List Int) (x : Nd) (h : stepK w v st x = some st') : stepK w v (st ++ u) x = some (st' ++ u) := by
  obtain ⟨m, p, r, hn, b0, b1, b2, b3, b4, b5⟩ := need_is x.f0
  unfold stepK at h ⊢
  rw [hn] at h ⊢
  simp only at h ⊢
  split at h
  · cases h
  · rename_i h0
    rw [if_neg h0]
    split at h
    · rename_i h1
      rw [if_pos h1]
      split at h
      · cases h
      · rename_i h2
        rw [if_neg (by rw [List.length_append]; omega), List.take_append_of_le_length (by omega), List.drop_append_of_le_length (by omega)]
        split at h
        · rename_i h3
          rw [if_pos h3, ← Option.some.inj h]
          rfl
        · cases h
    · cases h
theorem runK_deep (w v : Int) (t : List Nd) : ∀ (st st' u : List Int), runK w v t st = some st' → runK w v t (st ++ u) = some (st' ++ u) := by
  induction t with
  | nil =>
    intro st st' u h
    simp only [runK, Option.some.injEq] at h
    subst h; rfl
  | cons x t ih =>
    intro st st' u h
    simp only [runK, Option.bind_eq_some_iff] at h
    obtain ⟨s1, h1, h2⟩ := h
    simp only [runK, stepK_deep w v st s1 u x h1, Option.bind_some]
    exact ih s1 st' u h2
theorem kindT_run (w v : Int) (t : List Nd) (h : kindT w v t > 0) : runK w v t [] = some [kindT w v t] := by
  unfold kindT at h ⊢
  split at h
  · rename_i hc
    rw [if_pos hc]
    cases hr : runK w v t [] with
    | none => rw [hr] at h; exact absurd h (by decide)
    | some st =>
      rw [hr] at h
      match st, h with
      | [k], _ => rfl
      | [], h => exact absurd h (by simp [top])
      | a :: b :: s, h => exact absurd h (by simp [top])
  · exact absurd h (by decide)
/-- Of a good joined term the operands are of the operator's kind. -/
theorem join_kinds (w v op : Int) (a b : List Nd) (h1 : (need op).1 = 2) (ha : kindT w v a > 0) (hb : kindT w v b > 0) (h : kindT w v (a ++ b ++ [⟨op, 0⟩]) > 0) : kindT w v a = (need op).2.1 ∧ kindT w v b = (need op).2.1 := by
  have hr := kindT_run w v _ h
  rw [runK_append, runK_append, kindT_run w v a ha] at hr
  simp only [Option.bind_some] at hr
  have h2 := runK_deep w v b [] _ [kindT w v a] (kindT_run w v b hb)
  rw [List.nil_append] at h2
  rw [h2] at hr
  simp only [Option.bind_some, runK, List.cons_append, List.nil_append] at hr
  obtain ⟨s1, h3, _⟩ := Option.bind_eq_some_iff.1 hr
  unfold stepK at h3
  rw [h1] at h3
  split at h3
  · cases h3
  · split at h3
    · split at h3
      · cases h3
      · split at h3
        · rename_i hall
          have : (kindT w v b = (need op).2.1) ∧ (kindT w v a = (need op).2.1) := by simpa using hall
          exact ⟨this.2, this.1⟩
        · cases h3
    · cases h3
theorem need_two (op : Int) (h : (need op).1 = 2) : (need op).2.1 > 0 := by
  have key : need op = if op = 1 ∨ op = 2 then (0, 1, 1) else if op = 20 then (0, 2, 2) else if op = 13 then (1, 1, 1) else if op = 19 then (1, 2, 2)
    else if 3 ≤ op ∧ op ≤ 12 then (2, 1, 1) else if 14 ≤ op ∧ op ≤ 16 then (2, 1, 2) else if op = 17 ∨ op = 18 then (2, 2, 2) else (0, 0, 0) := by unfold need; rfl
  rw [key] at h ⊢
  revert h
  (repeat' split) <;> simp
/-- What JoinTerms returns. -/
def joined (w v op : Int) (a b : List Nd) : List Nd × Bool :=
  if (need op).1 = 2 ∧ kindT w v a > 0 ∧ kindT w v b > 0 ∧ kindT w v (a ++ b ++ [⟨op, 0⟩]) > 0 then (a ++ b ++ [⟨op, 0⟩], true) else ([], false)
theorem joined_len (w v op : Int) (a b : List Nd) : (joined w v op a b).1.length ≤ 48 := by
  unfold joined
  split
  · rename_i h; exact (kindT_len w v _ h.2.2.2).1
  · simp
theorem join_ok (a b : List Nd) (op : Int) (ha : okNodes a) (hb : okNodes b) : okNodes (a ++ b ++ [⟨op, 0⟩]) := by
  intro x hx
  rcases List.mem_append.1 hx with hx | hx
  · rcases List.mem_append.1 hx with hx | hx
    · exact ha x hx
    · exact hb x hx
  · obtain rfl := List.mem_singleton.1 hx
    exact ⟨Int.le_refl 0, (by decide : (0 : Int) < 18446744073709551616)⟩
theorem join_spec (k : Nat) (w v op : Int) (a b : List Nd) (ha : okNodes a) (hb : okNodes b) (hla : a.length ≤ 1048576) (hlb : b.length ≤ 1048576) (hk : 400 < k) : spec_JoinTerms.f k w v op a b = some (joined w v op a b) := by
  unfold spec_JoinTerms.f joined
  rewrite [need_spec _ _ (by omega)]
  simp only [Option.bind_some]
  by_cases h1 : (need op).1 = 2
  · have hp := need_two op h1
    rewrite [if_pos h1, l2Kind_val k w v a ha hk]
    simp only [Option.bind_some]
    by_cases h2 : kindT w v a = (need op).2.1
    · rewrite [if_pos h2, l2Kind_val k w v b hb hk]
      simp only [Option.bind_some]
      by_cases h3 : kindT w v b = (need op).2.1
      · rewrite [if_pos h3]
        simp only [List.nil_append, List.length_nil]
        rewrite [if_pos (by omega), if_pos (by omega), if_pos (by rw [List.length_append]; omega)]
        unfold spec_l2Made.f
        rewrite [goodTerm_spec k w v _ (join_ok a b op ha hb) hk]
        simp only [Option.bind_some, decide_eq_true_eq]
        by_cases h4 : kindT w v (a ++ b ++ [⟨op, 0⟩]) > 0
        · rewrite [if_pos h4, if_pos ⟨h1, by omega, by omega, h4⟩]; rfl
        · rewrite [if_neg h4, if_neg (fun h => h4 h.2.2.2)]; rfl
      · rewrite [if_neg h3, if_neg (fun h => h3 (join_kinds w v op a b h1 h.2.1 h.2.2.1 h.2.2.2).2)]; rfl
    · rewrite [if_neg h2, if_neg (fun h => h2 (join_kinds w v op a b h1 h.2.1 h.2.2.1 h.2.2.2).1)]; rfl
  · rewrite [if_neg h1, if_neg (fun h => h1 h.1)]; rfl
theorem join_impl (k : Nat) (w v op : Int) (a b : List Nd) (ha : okNodes a) (hb : okNodes b) (hk : 401 < k) : impl_JoinTerms.f k w v op a b = some (joined w v op a b) := by
  unfold impl_JoinTerms.f joined
  obtain ⟨n1, n2, n3⟩ := needI_eq op
  rewrite [need_impl _ _ (by omega)]
  simp only [Option.bind_some]
  rewrite [n1]
  have hj : ∀ bb : Bool, (bb = false → kindT w v a > 0 ∧ kindT w v b > 0) → impl_JoinTerms.j0 k w v op a b bb = if bb = true then some ([], false) else some (if kindT w v (a ++ b ++ [⟨op, 0⟩]) > 0 then (a ++ b ++ [⟨op, 0⟩], true) else ([], false)) := by
    intro bb hbb
    obtain ⟨k, rfl⟩ : ∃ m, k = m + 1 := ⟨k - 1, by omega⟩
    simp only [impl_JoinTerms.j0]
    cases bb with
    | true => rfl
    | false =>
      obtain ⟨g1, g2⟩ := hbb rfl
      have l1 := (kindT_len w v a g1).1
      have l2 := (kindT_len w v b g2).1
      have hfl : [a, b, [(⟨op, 0⟩ : Nd)]].flatten = a ++ b ++ [⟨op, 0⟩] := by simp
      simp only [Bool.false_eq_true, if_false]
      unfold slices_Concat_impl_Node.f impl_checkedTerm.f
      rewrite [hfl, if_pos (by simp; omega)]
      simp only [Option.bind_some]
      rewrite [goodTerm_impl k w v _ (join_ok a b op ha hb) (by omega)]
      simp only [Option.bind_some, decide_eq_true_eq]
      by_cases h4 : kindT w v (a ++ b ++ [⟨op, 0⟩]) > 0
      · rewrite [if_pos h4, if_pos h4]; rfl
      · rewrite [if_neg h4, if_neg h4]; rfl
  by_cases h1 : (need op).1 = 2
  · rewrite [if_pos h1, goodTerm_impl k w v a ha (by omega)]
    simp only [Option.bind_some, decide_eq_true_eq]
    by_cases h2 : kindT w v a > 0
    · rewrite [if_pos h2, goodTerm_impl k w v b hb (by omega)]
      simp only [Option.bind_some]
      by_cases h3 : kindT w v b > 0
      · rewrite [decide_eq_true h3, hj _ (fun _ => ⟨h2, h3⟩), if_neg (by decide)]
        by_cases h4 : kindT w v (a ++ b ++ [⟨op, 0⟩]) > 0
        · rewrite [if_pos h4, if_pos ⟨h1, h2, h3, h4⟩]; rfl
        · rewrite [if_neg h4, if_neg (fun h => h4 h.2.2.2)]; rfl
      · rewrite [decide_eq_false h3, hj _ (fun h => by cases h), if_pos (by decide), if_neg (fun h => h3 h.2.2.1)]; rfl
    · rewrite [if_neg h2, hj _ (fun h => by cases h), if_pos (by decide), if_neg (fun h => h2 h.2.1)]; rfl
  · rewrite [if_neg h1, hj true (fun h => by cases h), if_pos rfl, if_neg (fun h => h1 h.1)]; rfl
theorem FnExactJoinTerms : laws_FnExactJoinTerms.Pure := by
  intro w v op l m _ _ _ hl hm
  have hlen := hl.1
  have hmen := hm.1
  simp only [maxLen] at hlen hmen
  refine ⟨l.length + m.length + 2000 + 3, ?_⟩
  obtain ⟨q, hq⟩ : ∃ q, l.length + m.length + 2000 = q := ⟨_, rfl⟩
  rw [hq]
  unfold laws_FnExactJoinTerms.f
  rewrite [sz_val l hlen]
  simp only [Option.bind_some]
  by_cases hs : 1048576 < l.length
  · rw [if_pos hs, if_pos (by decide)]
  · have hsz : laws_szNodeS.f m (1048576 - (l.length : Int)) = some (if 1048576 < l.length + m.length then -1 else 1048576 - (l.length : Int) - (m.length : Int)) := by
      unfold laws_szNodeS.f
      rw [wrap64_id _ (by omega) (by omega)]
      by_cases h : 1048576 < l.length + m.length
      · rw [if_pos (by omega), if_pos h]
      · rw [if_neg (by omega), if_neg h]
    rewrite [if_neg hs, if_neg (by omega), hsz]
    simp only [Option.bind_some]
    by_cases hs2 : 1048576 < l.length + m.length
    · rw [if_pos hs2, if_pos (by decide)]
    · have hok := conv_ok l hl.2
      have hok2 := conv_ok m hm.2
      have hcl : (l.map conv).length = l.length := by simp
      have hcm : (m.map conv).length = m.length := by simp
      rewrite [if_neg hs2, if_neg (by omega), toNodes_val _ l (by omega) (by omega)]
      simp only [Option.bind_some]
      rewrite [toNodes_val _ m (by omega) (by omega)]
      simp only [Option.bind_some]
      rewrite [join_spec _ w v op _ _ hok hok2 (by omega) (by omega) (by omega), join_impl _ w v op _ _ hok hok2 (by omega)]
      obtain ⟨g, b, hres⟩ : ∃ g b, joined w v op (l.map conv) (m.map conv) = (g, b) := ⟨_, _, rfl⟩
      have hgl := joined_len w v op (l.map conv) (m.map conv)
      rw [hres] at hgl
      simp only at hgl
      simp only [Option.bind_some, hres]
      rewrite [eqNodes_val _ g (by omega) (by omega)]
      have hbb : (b != b) = false := by simp
      simp only [Option.bind_some, if_true, laws_FnExactJoinTerms.j0, hbb, Bool.false_eq_true, if_false]
      rewrite [toNodes_val _ l (by omega) (by omega)]
      simp only [Option.bind_some]
      rewrite [eqNodes_val _ (l.map conv) (by omega) (by omega)]
      simp only [Option.bind_some, if_true]
      rewrite [toNodes_val _ m (by omega) (by omega)]
      simp only [Option.bind_some]
      rewrite [eqNodes_val _ (m.map conv) (by omega) (by omega)]
      simp only [Option.bind_some, if_true]
      rewrite [markNode_val _ 1 (by omega) (by omega) (l.map conv) (by omega) (by omega)]
      simp only [Option.bind_some]
      rewrite [markNode_val _ _ (by omega) (by omega) (m.map conv) (by omega) (by omega)]
      simp only [Option.bind_some]
      rewrite [if_neg (by omega), eqNodes_val _ g (by omega) (by omega)]
      simp only [Option.bind_some, if_true, laws_FnExactJoinTerms.j1, Bool.false_eq_true, if_false]
      rewrite [markNode_val _ 1 (by omega) (by omega) g (by omega) (by omega)]
      simp only [Option.bind_some]
      rewrite [heldNode_val _ 1 (by omega) (by omega) g.length (by omega) (by omega)]
      simp only [Option.bind_some]
      rewrite [if_neg (by omega), toNodes_val _ l (by omega) (by omega)]
      simp only [Option.bind_some, if_true]
      rewrite [toNodes_val _ m (by omega) (by omega)]
      simp only [Option.bind_some]
      rewrite [join_impl _ w v op _ _ hok hok2 (by omega), hres]
      simp only [Option.bind_some]
      rewrite [eqNodes_val _ g (by omega) (by omega)]
      simp only [Option.bind_some, if_true, laws_FnExactJoinTerms.j2, hbb, Bool.false_eq_true, if_false]
      rewrite [heldNode_val _ 1 (by omega) (by omega) g.length (by omega) (by omega)]
      simp only [Option.bind_some]
      rewrite [if_neg (by omega)]
      rfl
end Go.Proofs.Ythageckjjbgonaa.Pure
