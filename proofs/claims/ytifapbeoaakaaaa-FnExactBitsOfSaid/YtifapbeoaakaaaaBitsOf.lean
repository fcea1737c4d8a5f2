/- The law on BitsOf: both walk the words' bits alike. Conditions: those of the law's own Pure. -/
import Derived.Test.YtifapbeoaakaaaaListsW
import Derived.Test.YtifapbeoaakaaaaX1
import Derived.Test.YtifapbeoaakaaaaX2
import Derived.Test.YtifapbeoaakaaaaX3
import Derived.Test.YtifapbeoaakaaaaX4
import Derived.Test.YtifapbeoaakaaaaX5
import Derived.Test.YtifapbeoaakaaaaX8
namespace Go.Proofs.Ytifapbeoaakaaaa.Pure
open Go.RowKit Go.Proofs.Ytifapbeoaakaaaa.X Go.Proofs.YtifapbeoaakaaaaW.PrintWords Go.Proofs.YtifapbeoaakaaaaW.PrintLast Go.Proofs.YtifapbeoaakaaaaW.PrintMore Go.Proofs.Ytifapbeoaakaaaa.Bits
def bt1 (a : Int) (i : Nat) : Bool := (Go.bits .and .u64 (shr .u64 a (i : Int)) 1) == 1
def rowB (a : Int) : Nat → Nat → List Bool
  | 0, _ => []
  | n + 1, i => bt1 a i :: rowB a n (i + 1)
theorem rowB_len (a : Int) (n : Nat) : ∀ i, (rowB a n i).length = n := by
  induction n with
  | zero => intro i; rfl
  | succ n ih => intro i; simp only [rowB, List.length_cons, ih]
def allBits (w : Nat) : List Int → List Bool
  | [] => []
  | a :: t => rowB a w 0 ++ allBits w t
theorem spec_row (w : Nat) (hw : w ≤ 4) (a : Int) (s : List Int) (L j : Int) (n : Nat) : ∀ (i k : Nat) (acc : List Bool), i + n = w → acc.length + n ≤ 1000000000 →
    spec_l5Bits.l1 (k + n + 1) (w : Int) acc a (i : Int) s L j = spec_l5Bits.l0 k (w : Int) (acc ++ rowB a n i) s L (wrap64 (j + 1)) := by
  induction n with
  | zero =>
    intro i k acc hi ha
    simp only [spec_l5Bits.l1]
    rewrite [if_neg (by omega)]
    simp only [rowB, List.append_nil]
  | succ n ih =>
    intro i k acc hi ha
    have e1 : wrap64 ((i : Int) + 1) = ((i + 1 : Nat) : Int) := by rw [wrap64_id _ (by omega) (by omega)]; omega
    obtain ⟨m, hm⟩ : ∃ m, k + n + 1 = m := ⟨_, rfl⟩
    rw [show k + (n + 1) + 1 = m + 1 by omega]
    simp only [spec_l5Bits.l1]
    rewrite [if_pos (by omega), u64_id (i : Int) (by omega) (by omega), if_pos (by omega), if_pos (by omega), e1, ← hm, ih (i + 1) k _ (by omega) (by simp; omega)]
    simp only [rowB, List.append_assoc, List.singleton_append]
    rfl
theorem impl_row (w : Nat) (hw : w ≤ 4) (a : Int) (s : List Int) (L j : Int) (n : Nat) : ∀ (i k : Nat) (acc : List Bool), i + n = w → acc.length + n ≤ 1000000000 →
    impl_BitsOf.l1 (k + n + 1) (w : Int) acc a s L j (w : Int) (i : Int) = impl_BitsOf.l0 k (w : Int) (acc ++ rowB a n i) s L (wrap64 (j + 1)) := by
  induction n with
  | zero =>
    intro i k acc hi ha
    simp only [impl_BitsOf.l1]
    rewrite [if_neg (by omega)]
    simp only [rowB, List.append_nil]
  | succ n ih =>
    intro i k acc hi ha
    have e1 : wrap64 ((i : Int) + 1) = ((i + 1 : Nat) : Int) := by rw [wrap64_id _ (by omega) (by omega)]; omega
    obtain ⟨m, hm⟩ : ∃ m, k + n + 1 = m := ⟨_, rfl⟩
    rw [show k + (n + 1) + 1 = m + 1 by omega]
    simp only [impl_BitsOf.l1]
    rewrite [if_pos (by omega), if_pos (by omega), if_pos (by omega), e1, ← hm, ih (i + 1) k _ (by omega) (by simp; omega)]
    simp only [rowB, List.append_assoc, List.singleton_append]
    rfl
theorem spec_all (w : Nat) (hw : w ≤ 4) (s : List Int) (hs : s.length ≤ 4) (d : Nat) : ∀ (i k : Nat) (acc : List Bool), i + d = s.length → acc.length ≤ 4 * i → 10 * d + 5 < k →
    spec_l5Bits.l0 k (w : Int) acc s (s.length : Int) (i : Int) = some (acc ++ allBits w (s.drop i)) := by
  induction d with
  | zero =>
    intro i k acc hi ha hk
    obtain ⟨k, rfl⟩ : ∃ m, k = m + 1 := ⟨k - 1, by omega⟩
    simp only [spec_l5Bits.l0]
    rw [if_neg (by omega), List.drop_eq_nil_of_le (by omega)]
    simp only [allBits, List.append_nil]
  | succ d ih =>
    intro i k acc hi ha hk
    obtain ⟨k, rfl⟩ : ∃ m, k = (m + w + 1) + 1 := ⟨k - w - 2, by omega⟩
    have hit : i < s.length := by omega
    have e1 : wrap64 ((i : Int) + 1) = ((i + 1 : Nat) : Int) := by rw [wrap64_id _ (by omega) (by omega)]; omega
    have hr := spec_row w hw s[i] s (s.length : Int) (i : Int) w 0 k acc (by omega) (by omega)
    simp only [spec_l5Bits.l0]
    rewrite [if_pos (by omega), if_pos (by omega), if_pos (by omega), rdUint64_at hit, show (0 : Int) = ((0 : Nat) : Int) from rfl, hr, e1, ih (i + 1) k _ (by omega) (by rw [List.length_append, rowB_len]; omega) (by omega), List.drop_eq_getElem_cons hit]
    simp only [allBits, List.append_assoc]
theorem impl_all (w : Nat) (hw : w ≤ 4) (s : List Int) (hs : s.length ≤ 4) (d : Nat) : ∀ (i k : Nat) (acc : List Bool), i + d = s.length → acc.length ≤ 4 * i → 10 * d + 5 < k →
    impl_BitsOf.l0 k (w : Int) acc s (s.length : Int) (i : Int) = some (acc ++ allBits w (s.drop i), true) := by
  induction d with
  | zero =>
    intro i k acc hi ha hk
    obtain ⟨k, rfl⟩ : ∃ m, k = m + 1 := ⟨k - 1, by omega⟩
    simp only [impl_BitsOf.l0]
    rw [if_neg (by omega), List.drop_eq_nil_of_le (by omega)]
    simp only [allBits, List.append_nil]
  | succ d ih =>
    intro i k acc hi ha hk
    obtain ⟨k, rfl⟩ : ∃ m, k = (m + w + 1) + 1 := ⟨k - w - 2, by omega⟩
    have hit : i < s.length := by omega
    have e1 : wrap64 ((i : Int) + 1) = ((i + 1 : Nat) : Int) := by rw [wrap64_id _ (by omega) (by omega)]; omega
    have hr := impl_row w hw s[i] s (s.length : Int) (i : Int) w 0 k acc (by omega) (by omega)
    simp only [impl_BitsOf.l0]
    rewrite [if_pos (by omega), if_pos (by omega), if_pos (by omega), rdUint64_at hit, show (0 : Int) = ((0 : Nat) : Int) from rfl, hr, e1, ih (i + 1) k _ (by omega) (by rw [List.length_append, rowB_len]; omega) (by omega), List.drop_eq_getElem_cons hit]
    simp only [allBits, List.append_assoc]
def allW (w : Int) (s : List Int) : Bool := s.all fun y => decide (word w y)
theorem words_loop (w : Int) (s : List Int) (hs : ∀ y ∈ s, 0 ≤ y ∧ y < 18446744073709551616) (hl : s.length ≤ 1048576) (d : Nat) : ∀ (i k : Nat), i + d = s.length → d + 67 < k →
    spec_l2Words.l0 k w s (s.length : Int) (i : Int) = some (allW w (s.drop i)) := by
  induction d with
  | zero =>
    intro i k hi hk
    obtain ⟨k, rfl⟩ : ∃ m, k = m + 1 := ⟨k - 1, by omega⟩
    simp only [spec_l2Words.l0]
    rw [if_neg (by omega), List.drop_eq_nil_of_le (by omega)]; rfl
  | succ d ih =>
    intro i k hi hk
    obtain ⟨k, rfl⟩ : ∃ m, k = m + 1 := ⟨k - 1, by omega⟩
    have hit : i < s.length := by omega
    have hm := hs s[i] (List.getElem_mem hit)
    have e1 : wrap64 ((i : Int) + 1) = ((i + 1 : Nat) : Int) := by rw [wrap64_id _ (by omega) (by omega)]; omega
    simp only [spec_l2Words.l0]
    rewrite [if_pos (by omega), if_pos (by omega), if_pos (by omega), rdUint64_at hit, goodWord_spec k w _ (by omega) hm.1 hm.2, List.drop_eq_getElem_cons hit]
    simp only [Option.bind_some, decide_eq_true_eq, allW, List.all_cons]
    by_cases h : word w s[i]
    · rewrite [if_pos h, e1, ih (i + 1) k (by omega) (by omega), decide_eq_true h, Bool.true_and]; rfl
    · rewrite [if_neg h, decide_eq_false h, Bool.false_and]; rfl
theorem anyState_val (w : Int) (s : List Int) (hs : ∀ y ∈ s, 0 ≤ y ∧ y < 18446744073709551616) : impl_isState_any.f s w = some (!allW w s) := by
  unfold impl_isState_any.f
  induction s with
  | nil => rfl
  | cons a s ih =>
    have hm := hs a (by simp)
    have := ih (fun y hy => hs y (by simp [hy]))
    simp only [impl_isState_any.any, impl_isState_any.p] at this ⊢
    rewrite [goodWord_impl w a hm.1]
    simp only [Option.bind_some, allW, List.all_cons]
    by_cases h : word w a
    · rewrite [decide_eq_true h, if_neg (by decide), this, Bool.true_and]; rfl
    · rewrite [decide_eq_false h, if_pos (by decide), Bool.false_and]; rfl
theorem allW_is {w : Int} {s : List Int} (h : allW w s = true) : ∀ y ∈ s, word w y := by
  intro y hy
  exact of_decide_eq_true (List.all_eq_true.mp h y hy)
def bR (w : Int) (s : List Int) : List Bool × Bool := if 1 ≤ w ∧ w ≤ 4 ∧ 1 ≤ (s.length : Int) ∧ (s.length : Int) ≤ 4 ∧ allW w s = true then (allBits w.toNat s, true) else ([], false)
theorem allBits_len (w : Nat) (s : List Int) : (allBits w s).length = w * s.length := by
  induction s with
  | nil => rfl
  | cons a t ih => simp only [allBits, List.length_append, rowB_len, ih, List.length_cons]; rw [Nat.mul_succ]; omega
theorem bR_len (w : Int) (s : List Int) : (bR w s).1.length ≤ 16 := by
  unfold bR
  split
  · rename_i h
    simp only [allBits_len]
    exact Nat.le_trans (Nat.mul_le_mul (show w.toNat ≤ 4 by omega) (show s.length ≤ 4 by omega)) (by decide)
  · simp
theorem isVarsB_val (a : Int) : impl_isVars.f a = some (decide (1 ≤ a ∧ a ≤ 4)) := by
  unfold impl_isVars.f
  by_cases h : a ≥ 1
  · rw [if_pos h]; simp [show 1 ≤ a from h]
  · rw [if_neg h]; simp [show ¬ 1 ≤ a from h]
theorem isLaid_val (a : Int) : impl_isLaid.f a = some (decide (1 ≤ a ∧ a ≤ 4)) := by
  unfold impl_isLaid.f
  by_cases h : a ≥ 1
  · rw [if_pos h]; simp [show 1 ≤ a from h]
  · rw [if_neg h]; simp [show ¬ 1 ≤ a from h]
theorem bits_spec (k : Nat) (w : Int) (s : List Int) (hs : ∀ y ∈ s, 0 ≤ y ∧ y < 18446744073709551616) (hl : s.length ≤ 1048576) (hk : 1048700 < k) : spec_BitsOf.f k w s = some (bR w s) := by
  unfold spec_BitsOf.f spec_l5Wide.f bR
  rewrite [l1In_val, l1In_val]
  simp only [Option.bind_some, decide_eq_true_eq]
  by_cases h1 : 1 ≤ w ∧ w ≤ 4
  · by_cases h2 : 1 ≤ (s.length : Int) ∧ (s.length : Int) ≤ 4
    · rewrite [if_pos h1, if_pos h2]
      unfold spec_l2Words.f
      have hwl : spec_l2Words.l0 k w s (s.length : Int) 0 = some (allW w s) := words_loop w s hs hl s.length 0 k (by omega) (by omega)
      rewrite [hwl]
      simp only [Option.bind_some]
      by_cases ha : allW w s = true
      · obtain ⟨n, rfl⟩ := Int.eq_ofNat_of_zero_le (show 0 ≤ w by omega)
        have hb : spec_l5Bits.l0 k (n : Int) [] s (s.length : Int) 0 = some ([] ++ allBits n (s.drop 0)) := spec_all n (by omega) s (by omega) s.length 0 k [] (by omega) (by simp) (by omega)
        unfold spec_l5Bits.f
        rewrite [if_pos ha, hb, if_pos ⟨h1.1, h1.2, h2.1, h2.2, ha⟩]
        rfl
      · rewrite [if_neg ha, if_neg (fun h => ha h.2.2.2.2)]; rfl
    · rewrite [if_pos h1, if_neg h2, if_neg (fun h => h2 ⟨h.2.2.1, h.2.2.2.1⟩)]; rfl
  · rewrite [if_neg h1, if_neg (fun h => h1 ⟨h.1, h.2.1⟩)]; rfl
theorem bits_impl (k : Nat) (w : Int) (s : List Int) (hs : ∀ y ∈ s, 0 ≤ y ∧ y < 18446744073709551616) (hk : 1000 < k) : impl_BitsOf.f k w s = some (bR w s) := by
  obtain ⟨k, rfl⟩ : ∃ m, k = m + 1 := ⟨k - 1, by omega⟩
  unfold impl_BitsOf.f impl_isState.f bR
  rewrite [isLaid_val, isWide_val, isVarsB_val, anyState_val w s hs]
  simp only [Option.bind_some, decide_eq_true_eq, Bool.not_not]
  by_cases h1 : 1 ≤ w ∧ w ≤ 4
  · rewrite [if_pos h1, if_pos (⟨h1.1, by omega⟩ : 1 ≤ w ∧ w ≤ 64)]
    by_cases h2 : 1 ≤ (s.length : Int) ∧ (s.length : Int) ≤ 4
    · rewrite [if_pos h2, if_pos trivial]
      simp only [Option.bind_some, impl_BitsOf.j0]
      by_cases ha : allW w s = true
      · obtain ⟨n, rfl⟩ := Int.eq_ofNat_of_zero_le (show 0 ≤ w by omega)
        have hb : impl_BitsOf.l0 k (n : Int) [] s (s.length : Int) 0 = some ([] ++ allBits n (s.drop 0), true) := impl_all n (by omega) s (by omega) s.length 0 k [] (by omega) (by simp) (by omega)
        rewrite [ha, if_neg (by decide), hb, if_pos ⟨h1.1, h1.2, h2.1, h2.2, rfl⟩]
        rfl
      · rewrite [Bool.eq_false_iff.mpr ha, if_pos (by decide), if_neg (fun h => absurd h.2.2.2.2 (by decide))]; rfl
    · rewrite [if_neg h2, if_neg (fun h => h2 ⟨h.2.2.1, h.2.2.2.1⟩)]
      simp only [Option.bind_some, impl_BitsOf.j0]
      rfl
  · rewrite [if_neg h1, if_neg (fun h => h1 ⟨h.1, h.2.1⟩)]
    simp only [impl_BitsOf.j0, if_true]
theorem FnExactBitsOf : laws_FnExactBitsOf.Pure := by
  intro w s _ hst
  have hsb : ∀ y ∈ s, 0 ≤ y ∧ y < 18446744073709551616 := fun y hy => wf_u64 (hst.2 y hy)
  obtain ⟨k, hk⟩ : ∃ k : Nat, 4000001 < k := ⟨4000002, by decide⟩
  refine ⟨k, ?_⟩
  unfold laws_FnExactBitsOf.f
  by_cases hbig : (s.length : Int) > 1048576
  · rw [if_pos hbig]
  have hr16 := bR_len w s
  have h1 := bits_spec k w s hsb (by omega) (by omega)
  have h2 : ∀ k, 1000 < k → impl_BitsOf.f k w s = some (bR w s) := fun k hk => bits_impl k w s hsb hk
  obtain ⟨r, hr⟩ : ∃ r, bR w s = r := ⟨_, rfl⟩
  rw [hr] at h1 hr16
  simp only [hr] at h2
  have heq : ∀ k, 1000 < k → laws_eqBoolS.f k r.1 r.1 = some true := fun k hk => eqBool_val k r.1 (by omega) (by omega)
  have hhd : ∀ k, 1000 < k → laws_heldBoolS.f k (mkBool 1 r.1.length) 1 = some (1 + 1 * (r.1.length : Int)) := fun k hk => heldBool_val k 1 (by omega) (by omega) _ (by omega) (by omega)
  have hb : (r.2 != r.2) = false := by simp
  obtain ⟨k, rfl⟩ : ∃ m, k = m + 3 := ⟨k - 3, by omega⟩
  rewrite [if_neg hbig, toUint64_val _ s (by omega) (by omega)]
  simp only [Option.bind_some]
  rewrite [h1, h2 _ (by omega)]
  simp only [Option.bind_some]
  rewrite [heq _ (by omega)]
  simp only [Option.bind_some, if_true, laws_FnExactBitsOf.j0]
  rewrite [hb, if_neg (by decide), toUint64_val _ s (by omega) (by omega)]
  simp only [Option.bind_some]
  rewrite [eqUint64_val _ s (by omega) (by omega)]
  simp only [Option.bind_some, if_true]
  rewrite [markUint64_val _ 1 (by omega) (by omega) s (by omega) (by omega)]
  simp only [Option.bind_some]
  rewrite [if_neg (by omega), heq _ (by omega)]
  simp only [Option.bind_some, if_true, laws_FnExactBitsOf.j1]
  rewrite [if_neg (by decide), markBool_val _ 1 (by omega) (by omega) r.1 (by omega) (by omega)]
  simp only [Option.bind_some]
  rewrite [hhd _ (by omega)]
  simp only [Option.bind_some]
  rewrite [if_neg (by omega), if_pos trivial, toUint64_val _ s (by omega) (by omega)]
  simp only [Option.bind_some]
  rewrite [h2 _ (by omega)]
  simp only [Option.bind_some]
  rewrite [heq _ (by omega)]
  simp only [Option.bind_some, if_true, laws_FnExactBitsOf.j2]
  rewrite [hb, if_neg (by decide), hhd _ (by omega)]
  simp only [Option.bind_some]
  rewrite [if_neg (by omega), if_pos trivial]; rfl
end Go.Proofs.Ytifapbeoaakaaaa.Pure
