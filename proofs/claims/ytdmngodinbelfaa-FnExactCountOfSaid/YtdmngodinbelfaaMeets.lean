/- Clauses met by values: the reference's signs and the program's search come to one plain test. Conditions: a good set of clauses, as many values as names. -/
import Derived.Test.YtdmngodinbelfaaCnf
import Derived.Test.YtdmngodinbelfaaX10
import Derived.Test.YtdmngodinbelfaaX11
import Derived.Test.YtdmngodinbelfaaX13
import Derived.Test.YtdmngodinbelfaaX14
namespace Go.Proofs.Ytdmngodinbelfaa.Pure
open Go.RowKit Go.Proofs.Ytdmngodinbelfaa.X Go.Proofs.YtdmngodinbelfaaW.PrintWords Go.Proofs.YtdmngodinbelfaaW.PrintLast Go.Proofs.YtdmngodinbelfaaW.PrintMore Go.Proofs.Ytdmngodinbelfaa.Bits
/-- A literal that values make true. -/
def litT (vs : List Bool) (x : Int) : Bool := if x < 0 then !(rdOf false vs (-x - 1)) else rdOf false vs (x - 1)
def meetsB (vs : List Bool) (l : List (List Int)) : Bool := l.all fun c => c.any (litT vs)
theorem litB_is {n x : Int} (h : litB n x = true) : x ≠ 0 ∧ -n ≤ x ∧ x ≤ n := by unfold litB at h; simpa using h
theorem mx_abs (x : Int) (h0 : -400 ≤ x) (h1 : x ≤ 400) : mx x (wrap64 (-x)) = if x < 0 then -x else x := by
  rw [wrap64_id _ (by omega) (by omega)]; unfold mx; split <;> split <;> omega
theorem meetsIn_val (vs : List Bool) (hv : vs.length ≤ 400) (c : List Int) (hc : ∀ x ∈ c, litB (vs.length : Int) x = true) : impl_meets_in.f c vs = some (c.any (litT vs)) := by
  unfold impl_meets_in.f
  induction c with
  | nil => rfl
  | cons x t ih =>
    obtain ⟨h1, h2, h3⟩ := litB_is (hc x (List.mem_cons_self ..))
    have ih2 := ih (fun y hy => hc y (List.mem_cons_of_mem _ hy))
    have hp : impl_meets_in.p vs x = some (litT vs x) := by
      unfold impl_meets_in.p impl_nameOfLiteral.f litT
      simp only [Option.bind_some]
      rewrite [mx_abs x (by omega) (by omega)]
      by_cases hx : x < 0
      · rewrite [if_pos hx, if_pos hx, wrap64_id _ (by omega) (by omega), if_pos (by omega), if_pos (by omega), decide_eq_false (by omega)]
        cases rdOf false vs (-x - 1) <;> rfl
      · rewrite [if_neg hx, if_neg hx, wrap64_id _ (by omega) (by omega), if_pos (by omega), if_pos (by omega), decide_eq_true (by omega)]
        cases rdOf false vs (x - 1) <;> rfl
    unfold impl_meets_in.any
    rewrite [hp]
    simp only [Option.bind_some]
    rewrite [List.any_cons]
    cases hb : litT vs x with
    | true => rfl
    | false => rewrite [if_neg (by decide), ih2]; rfl
theorem clauseB_is {n : Int} {c : List Int} (h : clauseB n c = true) : c.length ≤ 8 ∧ ∀ x ∈ c, litB n x = true := by
  unfold clauseB at h
  rw [Bool.and_eq_true, decide_eq_true_eq] at h
  exact ⟨h.1, fun x hx => List.all_eq_true.1 h.2 x hx⟩
theorem cnfB_is {n : Int} {l : List (List Int)} (h : cnfB n l = true) : 0 ≤ n ∧ n ≤ 400 ∧ l.length ≤ 1400 ∧ ∀ c ∈ l, clauseB n c = true := by
  unfold cnfB at h
  rw [Bool.and_eq_true, decide_eq_true_eq] at h
  exact ⟨h.1.1, h.1.2.1, h.1.2.2, fun x hx => List.all_eq_true.1 h.2 x hx⟩
theorem meets_impl (n : Int) (vs : List Bool) (l : List (List Int)) (hv : (vs.length : Int) = n) (h : cnfB n l = true) : impl_Cnf_meets.f n l vs = some (meetsB vs l) := by
  obtain ⟨h0, h1, h2, h3⟩ := cnfB_is h
  unfold impl_Cnf_meets.f impl_meets_any.f meetsB
  have hany : ∀ l : List (List Int), (∀ c ∈ l, clauseB n c = true) → impl_meets_any.any (impl_meets_any.p vs) l = some (!(l.all fun c => c.any (litT vs))) := by
    intro l
    induction l with
    | nil => intro _; rfl
    | cons c t ih =>
      intro hc
      have hcl := (clauseB_is (hc c (List.mem_cons_self ..))).2
      have hp : impl_meets_any.p vs c = some (!(c.any (litT vs))) := by unfold impl_meets_any.p; rw [meetsIn_val vs (by omega) c (by rw [hv]; exact hcl)]; rfl
      unfold impl_meets_any.any
      rewrite [hp]
      simp only [Option.bind_some]
      rewrite [List.all_cons]
      cases hb : c.any (litT vs) with
      | false => rfl
      | true => rewrite [if_neg (by decide), ih (fun y hy => hc y (List.mem_cons_of_mem _ hy))]; rfl
  rewrite [hany l h3]
  simp only [Option.bind_some, Bool.not_not]
def sg (b : Bool) : Int := if b then 1 else -1
theorem sg_bit (b : Bool) : spec_l2Bool.f b = some (if b = true then 1 else 0) := by unfold spec_l2Bool.f; cases b <;> rfl
theorem sg_num (b : Bool) : wrap64 (wrap64 (2 * wrap64 (if b = true then 1 else 0)) - 1) = sg b := by
  cases b
  · simp only [Bool.false_eq_true, if_false]
    rw [wrap64_id 0 (by omega) (by omega), wrap64_id (2 * 0) (by omega) (by omega), wrap64_id _ (by omega) (by omega)]; rfl
  · simp only [if_true]
    rw [wrap64_id 1 (by omega) (by omega), wrap64_id (2 * 1) (by omega) (by omega), wrap64_id _ (by omega) (by omega)]; rfl
theorem rdB_at {vs : List Bool} {i : Nat} (hit : i < vs.length) : rdOf false vs (i : Int) = vs[i] := by
  unfold rdOf
  rw [Int.toNat_natCast, List.getD_eq_getElem?_getD, List.getElem?_eq_getElem hit]; rfl
theorem sign_step (n : Int) (l : List (List Int)) (vs : List Bool) (hv : vs.length ≤ 400) (A : List Int) (i k : Nat) (hit : i < vs.length) (hA : i + 1 < A.length) :
    spec_Meets.l0 (k + 1) A vs (vs.length : Int) (i : Int) n l = spec_Meets.l0 k (A.set (i + 1) (sg vs[i])) vs (vs.length : Int) ((i + 1 : Nat) : Int) n l := by
  have e1 : wrap64 ((i : Int) + 1) = ((i + 1 : Nat) : Int) := by rw [wrap64_id _ (by omega) (by omega)]; omega
  simp only [spec_Meets.l0]
  rewrite [if_pos (by omega), if_pos (by omega), if_pos (by omega), rdB_at hit, sg_bit, Option.bind_some]
  rewrite [sg_num, e1, if_pos (by omega), if_pos (by omega), Int.toNat_natCast]
  exact Eq.refl _
theorem sign_loop (n : Int) (l : List (List Int)) (vs : List Bool) (hv : vs.length ≤ 400) (d : Nat) : ∀ (i k : Nat), i + d = vs.length →
    spec_Meets.l0 (k + d) (0 :: (vs.take i).map sg ++ List.replicate d 0) vs (vs.length : Int) (i : Int) n l = spec_Meets.l0 k (0 :: vs.map sg) vs (vs.length : Int) (vs.length : Int) n l := by
  induction d with
  | zero =>
    intro i k hi
    obtain rfl : i = vs.length := by omega
    rewrite [Nat.add_zero, List.take_length, List.replicate_zero, List.append_nil]
    exact Eq.refl _
  | succ d ih =>
    intro i k hi
    have hit : i < vs.length := by omega
    have hst := sign_step n l vs hv (0 :: (vs.take i).map sg ++ List.replicate (d + 1) 0) i (k + d) hit (by simp only [List.length_append, List.length_cons, List.length_map, List.length_take, List.length_replicate]; omega)
    have h2 : (0 :: (vs.take i).map sg ++ List.replicate (d + 1) 0).set (i + 1) (sg vs[i]) = 0 :: (vs.take (i + 1)).map sg ++ List.replicate d 0 := by
      rw [List.replicate_succ, set_mid _ _ _ _ _ (by simp only [List.length_cons, List.length_map, List.length_take]; omega), List.take_add_one, List.getElem?_eq_getElem hit, Option.toList_some, List.map_append]
      simp
    rw [h2] at hst
    have he : k + (d + 1) = k + d + 1 := by omega
    rw [he]
    exact hst.trans (ih (i + 1) k (by omega))
theorem sign_at (vs : List Bool) (i : Nat) (h : i < vs.length) : rd (0 :: vs.map sg) ((i + 1 : Nat) : Int) = sg (rdOf false vs (i : Int)) := by
  unfold rd rdOf
  rw [Int.toNat_natCast, Int.toNat_natCast, List.getD_cons_succ, List.getD_eq_getElem?_getD, List.getD_eq_getElem?_getD, List.getElem?_map, List.getElem?_eq_getElem h]
  rfl
theorem sign_val (vs : List Bool) (hv : vs.length ≤ 400) (x : Int) (h : litB (vs.length : Int) x = true) : (spec_l6Sign.f (0 :: vs.map sg) x).map (fun t => t == 1) = some (litT vs x) := by
  obtain ⟨h1, h2, h3⟩ := litB_is h
  unfold spec_l6Sign.f litT
  by_cases hx : x < 0
  · obtain ⟨i, hi⟩ : ∃ i : Nat, -x = ((i + 1 : Nat) : Int) := ⟨(-x - 1).toNat, by omega⟩
    have e1 : wrap64 (-x) = ((i + 1 : Nat) : Int) := by rw [wrap64_id _ (by omega) (by omega), hi]
    have e2 : -x - 1 = (i : Int) := by omega
    rewrite [if_pos hx, if_pos hx, e1, if_pos (by omega), if_pos (by simp only [List.length_cons, List.length_map]; omega), sign_at vs i (by omega), e2]
    cases rdOf false vs (i : Int)
    · simp only [sg, Bool.false_eq_true, if_false]; rw [wrap64_id _ (by omega) (by omega)]; rfl
    · simp only [sg, if_true]; rw [wrap64_id _ (by omega) (by omega)]; rfl
  · obtain ⟨i, hi⟩ : ∃ i : Nat, x = ((i + 1 : Nat) : Int) := ⟨(x - 1).toNat, by omega⟩
    have e2 : x - 1 = (i : Int) := by omega
    rewrite [if_neg hx, if_neg hx, if_pos (by omega), if_pos (by simp only [List.length_cons, List.length_map]; omega), hi, sign_at vs i (by omega), ← hi, e2]
    cases rdOf false vs (i : Int) <;> rfl
theorem met_loop (vs : List Bool) (hv : vs.length ≤ 400) (l : List (List Int)) (n i2 : Int) (c : List Int) (hc : ∀ x ∈ c, litB (vs.length : Int) x = true) (hcl : c.length ≤ 8) (d : Nat) : ∀ (i k : Nat) (met : Bool), i + d = c.length →
    spec_Meets.l2 (k + d) (0 :: vs.map sg) met l n i2 c (c.length : Int) (i : Int) = spec_Meets.l2 k (0 :: vs.map sg) (met || (c.drop i).any (litT vs)) l n i2 c (c.length : Int) (c.length : Int) := by
  induction d with
  | zero =>
    intro i k met hi
    obtain rfl : i = c.length := by omega
    rw [List.drop_length, List.any_nil, Bool.or_false]; rfl
  | succ d ih =>
    intro i k met hi
    have hit : i < c.length := by omega
    have e1 : wrap64 ((i : Int) + 1) = ((i + 1 : Nat) : Int) := by rw [wrap64_id _ (by omega) (by omega)]; omega
    have hd : c.drop i = c[i] :: c.drop (i + 1) := List.drop_eq_getElem_cons hit
    rw [hd, List.any_cons, ← Bool.or_assoc, ← ih (i + 1) k _ (by omega), show k + (d + 1) = (k + d) + 1 by omega]
    rewrite [spec_Meets.l2, if_pos (by omega), if_pos (by omega), if_pos (by omega), rdInt_at hit, e1]
    cases met with
    | true => rewrite [if_pos rfl]; rfl
    | false =>
      have hs := sign_val vs hv c[i] (hc _ (List.getElem_mem hit))
      obtain ⟨t, ht, ht2⟩ := Option.map_eq_some_iff.1 hs
      rewrite [if_neg (by decide), ht]
      simp only [Option.bind_some]
      rewrite [ht2]
      rfl
theorem all_loop (vs : List Bool) (hv : vs.length ≤ 400) (l : List (List Int)) (hl : l.length ≤ 1400) (hc : ∀ c ∈ l, clauseB (vs.length : Int) c = true) (d : Nat) : ∀ (i k : Nat), i + d = l.length → 10 * d < k →
    spec_Meets.l1 k (0 :: vs.map sg) l (l.length : Int) (i : Int) = some (meetsB vs (l.drop i), true) := by
  induction d with
  | zero =>
    intro i k hi hk
    obtain ⟨k, rfl⟩ : ∃ m, k = m + 1 := ⟨k - 1, by omega⟩
    rewrite [spec_Meets.l1, if_neg (by omega), List.drop_eq_nil_of_le (by omega)]; rfl
  | succ d ih =>
    intro i k hi hk
    have hit : i < l.length := by omega
    obtain ⟨h8, hcl⟩ := clauseB_is (hc _ (List.getElem_mem hit))
    obtain ⟨k, rfl⟩ : ∃ m, k = (m + 1) + l[i].length + 1 := ⟨k - 2 - l[i].length, by omega⟩
    have e1 : wrap64 ((i : Int) + 1) = ((i + 1 : Nat) : Int) := by rw [wrap64_id _ (by omega) (by omega)]; omega
    have hd : l.drop i = l[i] :: l.drop (i + 1) := List.drop_eq_getElem_cons hit
    have hm := met_loop vs hv l (l.length : Int) (i : Int) l[i] hcl h8 l[i].length 0 (k + 1) false (by omega)
    rw [Int.natCast_zero, List.drop_zero, Bool.false_or] at hm
    rewrite [spec_Meets.l1, if_pos (by omega), if_pos (by omega), if_pos (by omega), rdIS_at hit, hm, spec_Meets.l2, if_neg (by omega), hd]
    unfold meetsB
    rewrite [List.all_cons]
    cases hb : l[i].any (litT vs) with
    | false => rewrite [if_neg (by decide)]; rfl
    | true => rewrite [if_pos rfl, e1, ih (i + 1) k (by omega) (by omega)]; rfl
/-- What Meets returns. -/
def meetsR (n : Int) (l : List (List Int)) (vs : List Bool) : Bool × Bool := if cnfB n l = true ∧ (vs.length : Int) = n then (meetsB vs l, true) else (false, false)
theorem meets_spec (n : Int) (l : List (List Int)) (vs : List Bool) (k : Nat) (hk : 15000 < k) : spec_Meets.f k n l vs = some (meetsR n l vs) := by
  unfold spec_Meets.f meetsR
  rewrite [specCnf_val n l k (by omega)]
  simp only [Option.bind_some]
  have hj : ∀ q, spec_Meets.j0 (q + 1) vs true n l = some (false, false) := fun q => by simp only [spec_Meets.j0]; rfl
  obtain ⟨k, rfl⟩ : ∃ m, k = m + 1 := ⟨k - 1, by omega⟩
  by_cases h : cnfB n l = true
  · obtain ⟨h0, h1, h2, h3⟩ := cnfB_is h
    rewrite [if_pos h]
    by_cases hn : (vs.length : Int) = n
    · rewrite [bne_eq_false_iff_eq.mpr hn, if_pos ⟨h, hn⟩]
      simp only [spec_Meets.j0]
      have e1 : wrap64 (n + 1) = ((vs.length + 1 : Nat) : Int) := by rw [wrap64_id _ (by omega) (by omega)]; omega
      rewrite [if_neg (by decide), e1, if_pos (by omega), Int.toNat_natCast, if_pos (by omega)]
      obtain ⟨q, rfl⟩ : ∃ q, k = (q + 1) + vs.length := ⟨k - 1 - vs.length, by omega⟩
      have hs := sign_loop n l vs (by omega) vs.length 0 (q + 1) (by omega)
      rw [Int.natCast_zero, List.take_zero, List.map_nil] at hs
      have hrep : List.replicate (vs.length + 1) (0 : Int) = 0 :: [] ++ List.replicate vs.length 0 := by rw [List.replicate_succ]; rfl
      rewrite [hrep, hs, spec_Meets.l0, if_neg (by omega)]
      have ha := all_loop vs (by omega) l h2 (by rw [hn]; exact h3) l.length 0 q (by omega) (by omega)
      rw [Int.natCast_zero, List.drop_zero] at ha
      exact ha
    · rewrite [bne_iff_ne.mpr hn, hj, if_neg (fun x => hn x.2)]; rfl
  · rewrite [if_neg h, hj, if_neg (fun x => h x.1)]; rfl
theorem Meets_impl (n : Int) (l : List (List Int)) (vs : List Bool) : impl_Meets.f n l vs = some (meetsR n l vs) := by
  unfold impl_Meets.f meetsR
  rewrite [implCnf_val]
  simp only [Option.bind_some]
  by_cases h : cnfB n l = true
  · rewrite [if_pos h]
    by_cases hn : (vs.length : Int) = n
    · rewrite [if_pos hn, meets_impl n vs l hn h, if_pos ⟨h, hn⟩]; rfl
    · rewrite [if_neg hn, if_neg (fun x => hn x.2)]; rfl
  · rewrite [if_neg h, if_neg (fun x => h x.1)]; rfl
end Go.Proofs.Ytdmngodinbelfaa.Pure
