/- Lists of nodes as the laws hand them over: copied, compared, measured; and the laws on GoodTerm and KindOf. Conditions: those of the laws' own Pure. -/
import Derived.Test.YthageckjjbgonaaTerm1
import Derived.Test.YthageckjjbgonaaX11
import Derived.Test.YthageckjjbgonaaX12
namespace Go.Proofs.Ythageckjjbgonaa.Pure
open Go.RowKit Go.Proofs.Ythageckjjbgonaa.X Go.Proofs.YthageckjjbgonaaW.PrintWords Go.Proofs.YthageckjjbgonaaW.PrintLast Go.Proofs.Ythageckjjbgonaa.Bits

abbrev Nl := S49
def conv (x : Nl) : Nd := ⟨x.f0, x.f1⟩
theorem rdl_at {t : List Nl} {i : Nat} (h : i < t.length) : rd_T49 t (i : Int) = t[i] := by
  unfold rd_T49
  rw [Int.toNat_natCast, List.getD_eq_getElem?_getD, List.getElem?_eq_getElem h]; rfl
theorem sz_val (l : List Nl) (hl : l.length ≤ 9223372036854775807) : laws_szNodeS.f l 1048576 = some (if 1048576 < l.length then -1 else 1048576 - (l.length : Int)) := by
  unfold laws_szNodeS.f
  rw [wrap64_id _ (by omega) (by omega)]
  by_cases h : 1048576 < l.length
  · rw [if_pos (by omega), if_pos h]
  · rw [if_neg (by omega), if_neg h]
theorem set_mid {α : Type} (a b : List α) (x y : α) (n : Nat) (h : n = a.length) : (a ++ x :: b).set n y = a ++ y :: b := by
  subst h; simp
theorem toNodes_loop (l : List Nl) (hl : l.length ≤ 1048576) (d : Nat) : ∀ (i : Nat) (k : Nat), i + d = l.length → d < k →
    laws_toNodeS.l0 k l ((l.take i).map conv ++ List.replicate d z47) (i : Int) = some (l.map conv) := by
  induction d with
  | zero =>
    intro i k hi hk
    obtain ⟨k, rfl⟩ : ∃ m, k = m + 1 := ⟨k - 1, by omega⟩
    simp only [laws_toNodeS.l0]
    rw [if_neg (by omega), List.take_of_length_le (by omega)]
    simp
  | succ d ih =>
    intro i k hi hk
    obtain ⟨k, rfl⟩ : ∃ m, k = m + 1 := ⟨k - 1, by omega⟩
    have hit : i < l.length := by omega
    have e1 : wrap64 ((i : Int) + 1) = ((i + 1 : Nat) : Int) := by rw [wrap64_id _ (by omega) (by omega)]; omega
    simp only [laws_toNodeS.l0]
    rewrite [if_pos (by omega), if_pos (by omega)]
    unfold laws_toNode.f
    simp only [Option.bind_some]
    rewrite [if_pos (by simp; omega), rdl_at hit, e1, Int.toNat_natCast, List.replicate_succ, set_mid _ _ _ _ _ (by simp; omega)]
    have h2 : (l.take i).map conv ++ (⟨l[i].f0, l[i].f1⟩ : Nd) :: List.replicate d z47 = (l.take (i + 1)).map conv ++ List.replicate d z47 := by
      rw [List.take_add_one, List.getElem?_eq_getElem hit, Option.toList_some, List.map_append, List.append_assoc]
      rfl
    rewrite [h2]
    exact ih (i + 1) k (by omega) (by omega)
theorem toNodes_val (k : Nat) (l : List Nl) (hl : l.length ≤ 1048576) (hk : l.length < k) : laws_toNodeS.f k l = some (l.map conv) := by
  unfold laws_toNodeS.f
  rw [if_pos (by omega), Int.toNat_natCast, if_pos (by omega)]
  have := toNodes_loop l hl l.length 0 k (by omega) hk
  simpa using this
theorem eqNodes_loop (l : List Nd) (hl : l.length ≤ 1048576) (d : Nat) : ∀ (i : Nat) (k : Nat), i + d = l.length → d < k → laws_eqNodeS.l0 k l l (i : Int) = some true := by
  induction d with
  | zero =>
    intro i k hi hk
    obtain ⟨k, rfl⟩ : ∃ m, k = m + 1 := ⟨k - 1, by omega⟩
    simp only [laws_eqNodeS.l0]
    rw [if_neg (by omega)]
  | succ d ih =>
    intro i k hi hk
    obtain ⟨k, rfl⟩ : ∃ m, k = m + 1 := ⟨k - 1, by omega⟩
    have e1 : wrap64 ((i : Int) + 1) = ((i + 1 : Nat) : Int) := by rw [wrap64_id _ (by omega) (by omega)]; omega
    simp only [laws_eqNodeS.l0]
    rewrite [if_pos (by omega), if_pos (by omega), if_pos (by omega)]
    unfold laws_eqNode.f
    rewrite [if_pos rfl, if_pos rfl]
    simp only [Option.bind_some, if_true]
    rewrite [e1]
    exact ih (i + 1) k (by omega) (by omega)
theorem eqNodes_val (k : Nat) (l : List Nd) (hl : l.length ≤ 1048576) (hk : l.length < k) : laws_eqNodeS.f k l l = some true := by
  unfold laws_eqNodeS.f
  rw [if_pos rfl]
  exact eqNodes_loop l hl l.length 0 k (by omega) hk
theorem conv_ok (l : List Nl) (h : ∀ y ∈ l, wf49 y) : okNodes (l.map conv) := by
  intro x hx
  obtain ⟨y, hy, rfl⟩ := List.mem_map.1 hx
  exact wf_u64 (h y hy).2
/-- How many rounds serve every loop over such a list. -/
def rounds (l : List Nl) : Nat := 6 * l.length + 2000
theorem FnExactGoodTerm : laws_FnExactGoodTerm.Pure := by
  intro w v l _ _ hl
  have hlen := hl.1
  simp only [maxLen] at hlen
  refine ⟨rounds l, ?_⟩
  unfold laws_FnExactGoodTerm.f
  rewrite [sz_val l hlen]
  simp only [Option.bind_some]
  by_cases hs : 1048576 < l.length
  · rw [if_pos hs, if_pos (by decide)]
  · have hk : l.length < rounds l := by unfold rounds; omega
    have hk2 : 400 < rounds l := by unfold rounds; omega
    have hok := conv_ok l hl.2
    rewrite [if_neg hs, if_neg (by omega), toNodes_val _ l (by omega) hk]
    simp only [Option.bind_some]
    rewrite [goodTerm_spec _ w v _ hok hk2, goodTerm_impl _ w v _ hok hk2]
    simp only [Option.bind_some]
    rewrite [if_neg (by simp), eqNodes_val _ _ (by simp; omega) (by simpa using hk)]
    rfl
theorem runK_append (w v : Int) (t u : List Nd) : ∀ st, runK w v (t ++ u) st = (runK w v t st).bind (runK w v u) := by
  induction t with
  | nil => intro st; rfl
  | cons x t ih =>
    intro st
    simp only [List.cons_append, runK, Option.bind_assoc]
    congr 1
    funext s
    exact ih s
theorem step_head (w v : Int) (st st' : List Int) (x : Nd) (h : stepK w v st x = some st') : ∃ s, st' = (need x.f0).2.2 :: s := by
  unfold stepK at h
  split at h
  · cases h
  · split at h
    · split at h
      · cases h
      · split at h
        · exact ⟨_, (Option.some.inj h).symm⟩
        · cases h
    · cases h
theorem kindT_last (w v : Int) (t : List Nd) (h : kindT w v t > 0) : ∃ u x, t = u ++ [x] ∧ kindT w v t = (need x.f0).2.2 := by
  unfold kindT at h ⊢
  split at h
  · rename_i hc
    rw [if_pos hc]
    obtain ⟨u, x, rfl⟩ : ∃ u x, t = u ++ [x] := by
      rcases List.eq_nil_or_concat t with h0 | ⟨u, x, h0⟩
      · subst h0; simp at hc
      · exact ⟨u, x, by simpa using h0⟩
    refine ⟨u, x, rfl, ?_⟩
    rw [runK_append] at h ⊢
    cases h1 : runK w v u [] with
    | none => rw [h1] at h; simp [top] at h
    | some s =>
      rw [h1] at h
      simp only [Option.bind_some, runK] at h ⊢
      cases h2 : stepK w v s x with
      | none => rw [h2] at h; simp [top] at h
      | some s2 =>
        obtain ⟨s3, rfl⟩ := step_head w v s s2 x h2
        rw [h2] at h
        simp only [Option.bind_some] at h ⊢
        match s3 with
        | [] => rfl
        | b :: r => simp [top] at h
  · exact absurd h (by decide)
theorem kindOf_val (k : Nat) (w v : Int) (t : List Nd) (h : kindT w v t > 0) (hk : 400 < k) : impl_kindOf.f k t = some (kindT w v t) := by
  have hlen : t.length ≤ 48 := by
    unfold kindT at h
    split at h
    · omega
    · exact absurd h (by decide)
  obtain ⟨u, x, rfl, he⟩ := kindT_last w v t h
  rw [he]
  have e1 : wrap64 (((u ++ [x]).length : Int) - 1) = (u.length : Int) := by
    rw [wrap64_id _ (by simp only [List.length_append, List.length_cons, List.length_nil]; omega) (by omega)]; simp
  have e2 : rd_T47 (u ++ [x]) (u.length : Int) = x := by rw [rd_at (by simp)]; simp
  unfold impl_kindOf.f
  rw [e1, if_pos (by omega), if_pos (by simp only [List.length_append, List.length_cons, List.length_nil]; omega), e2, need_impl _ _ (by omega)]
  simp only [Option.bind_some]
  rw [(needI_eq x.f0).2.1]
theorem FnExactKindOf : laws_FnExactKindOf.Pure := by
  intro w v l _ _ hl
  have hlen := hl.1
  simp only [maxLen] at hlen
  refine ⟨rounds l, ?_⟩
  unfold laws_FnExactKindOf.f
  rewrite [sz_val l hlen]
  simp only [Option.bind_some]
  by_cases hs : 1048576 < l.length
  · rw [if_pos hs, if_pos (by decide)]
  · have hk : l.length < rounds l := by unfold rounds; omega
    have hk2 : 401 < rounds l := by unfold rounds; omega
    have hok := conv_ok l hl.2
    have hgo : ∀ k, rounds l ≤ k → laws_FnExactKindOf.j0 k l (l.map conv) false = some true := by
      intro k hkk
      obtain ⟨k, rfl⟩ : ∃ m, k = m + 1 := ⟨k - 1, by omega⟩
      simp only [laws_FnExactKindOf.j0]
      rewrite [if_neg (by decide), toNodes_val _ l (by omega) (by unfold rounds at hkk; omega)]
      simp only [Option.bind_some]
      rewrite [eqNodes_val _ _ (by simp; omega) (by simp; unfold rounds at hkk; omega)]
      rfl
    rewrite [if_neg hs, if_neg (by omega), toNodes_val _ l (by omega) hk]
    simp only [Option.bind_some]
    unfold spec_KindOf.f impl_KindOf.f
    rewrite [l2Kind_val _ w v _ hok (by omega), goodTerm_impl _ w v _ hok (by omega)]
    simp only [Option.bind_some, decide_eq_true_eq]
    by_cases hg : kindT w v (l.map conv) > 0
    · rewrite [if_pos hg, kindOf_val _ w v _ hg (by omega)]
      simp only [Option.bind_some]
      rewrite [if_pos trivial, decide_eq_true hg]
      exact hgo _ (Nat.le_refl _)
    · have h0 : kindT w v (l.map conv) = 0 := by
        unfold kindT at hg ⊢
        split at hg
        · rename_i hc
          rw [if_pos hc]
          cases h : runK w v (l.map conv) [] with
          | none => rfl
          | some st =>
            have hp := run_pos w v _ [] st h (fun y hy => absurd hy (by simp))
            rw [h] at hg
            match st with
            | [] => rfl
            | [a] => have := hp a (by simp); simp only [top] at hg; omega
            | a :: b :: s => rfl
        · rename_i hc; rw [if_neg hc]
      rewrite [if_neg hg, h0]
      simp only [Option.bind_some]
      rewrite [if_pos trivial]
      exact hgo _ (Nat.le_refl _)
theorem rdNode_at {t : List Nd} {i : Nat} (h : i < t.length) : rd_T47 t (i : Int) = t[i] := rd_at h
end Go.Proofs.Ythageckjjbgonaa.Pure
