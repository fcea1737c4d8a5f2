/- Terms as lists of nodes: what an operator needs, whether a node's number fits, and the stack of kinds; the reference's and the program's functions come to these. Conditions: numbers are of their kinds, lists no longer than 2^20. -/
import Derived.Test.YthageckjjbgonaaWords
import Derived.Test.YthageckjjbgonaaX1
import Derived.Test.YthageckjjbgonaaX10
import Derived.Test.YthageckjjbgonaaX2
import Derived.Test.YthageckjjbgonaaX3
import Derived.Test.YthageckjjbgonaaX4
import Derived.Test.YthageckjjbgonaaX5
import Derived.Test.YthageckjjbgonaaX6
import Derived.Test.YthageckjjbgonaaX8
import Derived.Test.YthageckjjbgonaaXO
namespace Go.Proofs.Ythageckjjbgonaa.Pure
open Go.RowKit Go.Proofs.Ythageckjjbgonaa.X Go.Proofs.YthageckjjbgonaaW.PrintWords Go.Proofs.YthageckjjbgonaaW.PrintLast Go.Proofs.Ythageckjjbgonaa.Bits

abbrev Nd := S47
/-- What an operator takes: how many operands, of which kind, and the kind of its result. -/
def need (op : Int) : Int × Int × Int :=
  if op = 1 ∨ op = 2 then (0, 1, 1) else if op = 20 then (0, 2, 2) else if op = 13 then (1, 1, 1) else if op = 19 then (1, 2, 2)
  else if 3 ≤ op ∧ op ≤ 12 then (2, 1, 1) else if 14 ≤ op ∧ op ≤ 16 then (2, 1, 2) else if op = 17 ∨ op = 18 then (2, 2, 2) else (0, 0, 0)
theorem isVars_val (a : Int) : impl_isVars.f a = some (decide (1 ≤ a ∧ a ≤ 4)) := by
  unfold impl_isVars.f
  by_cases h : a ≥ 1
  · rw [if_pos h]; simp [show 1 ≤ a from h]
  · rw [if_neg h]; simp [show ¬ 1 ≤ a from h]
theorem need_spec (k : Nat) (op : Int) (hk : 3 < k) : spec_l2Need.f k op = some (need op) := by
  obtain ⟨k, rfl⟩ : ∃ m, k = m + 1 := ⟨k - 1, by omega⟩
  unfold spec_l2Need.f need
  by_cases h1 : op = 1
  · simp [h1, spec_l2Need.j0]
  · by_cases h2 : op = 2
    · simp [h2, spec_l2Need.j0]
    · have hb : (op == 2) = false := by simpa using h2
      rw [if_neg h1, hb, if_neg (by omega)]
      simp only [spec_l2Need.j0]
      rw [if_neg (by decide)]
      by_cases h3 : op = 20
      · simp [h3]
      · rw [if_neg h3, if_neg h3]
        by_cases h4 : op = 13
        · simp [h4]
        · rw [if_neg h4, if_neg h4]
          by_cases h5 : op = 19
          · simp [h5]
          · rw [if_neg h5, if_neg h5, l1In_val, l1In_val]
            simp only [Option.bind_some, decide_eq_true_eq]
            by_cases h6 : 3 ≤ op ∧ op ≤ 12
            · rw [if_pos h6, if_pos h6]
            · rw [if_neg h6, if_neg h6]
              by_cases h7 : 14 ≤ op ∧ op ≤ 16
              · rw [if_pos h7, if_pos h7]
              · rw [if_neg h7, if_neg h7]
                by_cases h8 : op = 17
                · simp [h8]
                · by_cases h9 : op = 18
                  · simp [h9]
                  · rw [if_neg h8, if_neg h9, if_neg (by omega)]
/-- The program's own table: of a leaf the operands' kind is 0. -/
def needI (op : Int) : Int × Int × Int :=
  if op = 1 ∨ op = 2 then (0, 0, 1) else if op = 20 then (0, 0, 2) else if op = 13 then (1, 1, 1) else if op = 19 then (1, 2, 2)
  else if 3 ≤ op ∧ op ≤ 12 then (2, 1, 1) else if 14 ≤ op ∧ op ≤ 16 then (2, 1, 2) else if op = 17 ∨ op = 18 then (2, 2, 2) else (0, 0, 0)
theorem needI_eq (op : Int) : (needI op).1 = (need op).1 ∧ (needI op).2.2 = (need op).2.2 ∧ ((need op).1 ≠ 0 → (needI op).2.1 = (need op).2.1) := by
  unfold needI need; (repeat' split) <;> simp
theorem need_impl (k : Nat) (op : Int) (hk : 3 < k) : impl_operandsOf.f k op = some (needI op) := by
  obtain ⟨k, rfl⟩ : ∃ m, k = m + 3 := ⟨k - 3, by omega⟩
  unfold impl_operandsOf.f needI
  by_cases h1 : op = 1
  · simp [h1, impl_operandsOf.j0]
  · by_cases h2 : op = 2
    · simp [h2, impl_operandsOf.j0]
    · have hb : (op == 2) = false := by simpa using h2
      rw [if_neg h1, hb, if_neg (by omega)]
      simp only [impl_operandsOf.j0]
      rw [if_neg (by decide)]
      by_cases h3 : op = 20
      · simp [h3]
      · rw [if_neg h3, if_neg h3]
        by_cases h4 : op = 13
        · simp [h4]
        · rw [if_neg h4, if_neg h4]
          by_cases h5 : op = 19
          · simp [h5]
          · rw [if_neg h5, if_neg h5]
            have e1 : (if op ≥ 3 then impl_operandsOf.j1 (k + 2) op (decide (op ≤ 12)) else impl_operandsOf.j1 (k + 2) op false) = impl_operandsOf.j1 (k + 2) op (decide (3 ≤ op ∧ op ≤ 12)) := by
              by_cases h : op ≥ 3
              · rw [if_pos h]; congr 1; simp [show 3 ≤ op from h]
              · rw [if_neg h]; congr 1; simp [show ¬ 3 ≤ op from h]
            rw [e1]
            simp only [impl_operandsOf.j1, decide_eq_true_eq]
            by_cases h6 : 3 ≤ op ∧ op ≤ 12
            · rw [if_pos h6, if_pos h6]
            · rw [if_neg h6, if_neg h6]
              have e2 : (if op ≥ 14 then impl_operandsOf.j2 (k + 1) op (decide (op ≤ 16)) else impl_operandsOf.j2 (k + 1) op false) = impl_operandsOf.j2 (k + 1) op (decide (14 ≤ op ∧ op ≤ 16)) := by
                by_cases h : op ≥ 14
                · rw [if_pos h]; congr 1; simp [show 14 ≤ op from h]
                · rw [if_neg h]; congr 1; simp [show ¬ 14 ≤ op from h]
              rw [e2]
              simp only [impl_operandsOf.j2, decide_eq_true_eq]
              by_cases h7 : 14 ≤ op ∧ op ≤ 16
              · rw [if_pos h7, if_pos h7]
              · rw [if_neg h7, if_neg h7]
                by_cases h8 : op = 17
                · simp [h8]
                · by_cases h9 : op = 18
                  · simp [h9]
                  · rw [if_neg h8, if_neg h9, if_neg (by omega)]
theorem need_range (op : Int) : 0 ≤ (need op).1 ∧ (need op).1 ≤ 2 ∧ 0 ≤ (need op).2.2 ∧ (need op).2.2 ≤ 2 ∧ 0 ≤ (need op).2.1 ∧ (need op).2.1 ≤ 2 := by
  unfold need; (repeat' split) <;> decide
theorem need_is (op : Int) : ∃ m p r, need op = (m, p, r) ∧ 0 ≤ m ∧ m ≤ 2 ∧ 0 ≤ r ∧ r ≤ 2 ∧ 0 ≤ p ∧ p ≤ 2 :=
  ⟨(need op).1, (need op).2.1, (need op).2.2, rfl, need_range op⟩
attribute [irreducible] need needI
/-- Does a node's number fit its operator? -/
def leafB (w v : Int) (x : Nd) : Bool :=
  if x.f0 = 1 then decide (word w x.f1) else if x.f0 = 2 then decide (x.f1 < v) else if x.f0 = 20 then decide (x.f1 ≤ 1) else decide (x.f1 = 0)
theorem leaf_spec (k : Nat) (w v a b : Int) (hk : 65 < k) (hv0 : 0 ≤ v) (hv : v ≤ 4) (h0 : 0 ≤ b) (h1 : b < 18446744073709551616) : spec_l2N.f k w v a b = some (leafB w v ⟨a, b⟩) := by
  unfold spec_l2N.f leafB
  by_cases h2 : a = 1
  · rw [if_pos h2, if_pos h2, goodWord_spec k w b hk h0 h1]; rfl
  · rw [if_neg h2, if_neg h2, u64_id v hv0 (by omega)]
    by_cases h3 : a = 2
    · rw [if_pos h3, if_pos h3]
    · rw [if_neg h3, if_neg h3]
      by_cases h4 : a = 20
      · rw [if_pos h4, if_pos h4]; congr 1; rw [Bool.eq_iff_iff]; simp only [decide_eq_true_eq]; omega
      · rw [if_neg h4, if_neg h4]; first | done | rfl | (congr 1; first | done | rfl | (rw [Bool.eq_iff_iff]; simp))
theorem leaf_impl (w v a b : Int) (hv0 : 0 ≤ v) (hv : v ≤ 4) (h0 : 0 ≤ b) : impl_isLeafRight.f w v a b = some (leafB w v ⟨a, b⟩) := by
  unfold impl_isLeafRight.f leafB
  by_cases h2 : a = 1
  · rw [if_pos h2, if_pos h2, goodWord_impl w b h0]; rfl
  · rw [if_neg h2, if_neg h2, u64_id v hv0 (by omega)]
    by_cases h3 : a = 2
    · rw [if_pos h3, if_pos h3]
    · rw [if_neg h3, if_neg h3]
      by_cases h4 : a = 20
      · rw [if_pos h4, if_pos h4]
      · rw [if_neg h4, if_neg h4]; first | done | rfl | (congr 1; first | done | rfl | (rw [Bool.eq_iff_iff]; simp))
/-- One node over the stack of kinds; the top is the list's head. -/
def stepK (w v : Int) (st : List Int) (x : Nd) : Option (List Int) :=
  if (need x.f0).2.2 = 0 then none else if leafB w v x = true then
    if (st.length : Int) < (need x.f0).1 then none else if (st.take (need x.f0).1.toNat).all (fun y => y == (need x.f0).2.1) = true then some ((need x.f0).2.2 :: st.drop (need x.f0).1.toNat) else none
  else none
def runK (w v : Int) : List Nd → List Int → Option (List Int)
  | [], st => some st
  | x :: t, st => (stepK w v st x).bind (runK w v t)
theorem runK_len (w v : Int) (t : List Nd) : ∀ st st', runK w v t st = some st' → st'.length ≤ st.length + t.length := by
  induction t with
  | nil => intro st st' h; simp only [runK, Option.some.injEq] at h; subst h; simp
  | cons x t ih =>
    intro st st' h
    simp only [runK, Option.bind_eq_some_iff] at h
    obtain ⟨s1, h1, h2⟩ := h
    have h3 := ih _ _ h2
    unfold stepK at h1
    split at h1
    · cases h1
    · split at h1
      · split at h1
        · cases h1
        · split at h1
          · obtain rfl := Option.some.inj h1
            simp only [List.length_cons, List.length_drop] at h3 ⊢
            omega
          · cases h1
      · cases h1
theorem rd_last (st : List Int) (a : Int) : rd ((a :: st).reverse) (((a :: st).reverse.length : Int) - 1) = a := by
  have : (((a :: st).reverse.length : Int) - 1).toNat = st.length := by simp
  unfold rd
  rw [this]
  simp [List.getD]
theorem take_last (st : List Int) (a : Int) (n : Nat) (h : n = st.length) : (a :: st).reverse.take n = st.reverse := by
  subst h
  rw [List.reverse_cons, List.take_left' (by simp)]
/-- The reference pops one part after another. -/
theorem spec_pop (w v part own : Int) (t : List Nd) (n i : Int) (m : Nat) : ∀ (st : List Int) (k : Nat), m ≤ st.length → st.length ≤ 48 → (m : Int) ≤ 2 → m + 1 < k →
    ∃ k', k ≤ k' + m + 1 ∧ spec_l2Kind.l1 k w v st.reverse m part own t n i =
      if (st.take m).all (fun y => y == part) = true then spec_l2Kind.l0 k' w v ((st.drop m).reverse ++ [own]) t n (wrap64 (i + 1)) else some 0 := by
  induction m with
  | zero =>
    intro st k hm hl h2 hk
    obtain ⟨k, rfl⟩ : ∃ m, k = m + 1 := ⟨k - 1, by omega⟩
    refine ⟨k, by omega, ?_⟩
    simp only [spec_l2Kind.l1]
    rewrite [if_neg (by omega), if_pos (by simp; omega)]
    simp
  | succ m ih =>
    intro st k hm hl h2 hk
    obtain ⟨k, rfl⟩ : ∃ m, k = m + 1 := ⟨k - 1, by omega⟩
    obtain ⟨a, st, rfl⟩ : ∃ a s, st = a :: s := by cases st with | nil => simp at hm | cons a s => exact ⟨a, s, rfl⟩
    have hlen : ((a :: st).reverse.length : Int) = (st.length : Int) + 1 := by simp
    simp only [List.length_cons] at hm hl
    have e1 : wrap64 (((a :: st).reverse.length : Int) - 1) = ((a :: st).reverse.length : Int) - 1 := wrap64_id _ (by omega) (by omega)
    have e2 : wrap64 (((m + 1 : Nat) : Int) - 1) = (m : Int) := by rw [wrap64_id _ (by omega) (by omega)]; omega
    have e3 : (a :: st).reverse.take (((a :: st).reverse.length : Int) - 1).toNat = st.reverse := take_last st a _ (by omega)
    obtain ⟨k', hk', he⟩ := ih st k (by omega) (by omega) (by omega) (by omega)
    refine ⟨k', by omega, ?_⟩
    simp only [spec_l2Kind.l1]
    rewrite [e1, rd_last, if_pos (by omega), if_pos (by omega), if_pos (by omega), e2]
    by_cases h : a = part
    · rewrite [if_pos h, if_pos (by omega), e3, he]
      simp [h]
    · rewrite [if_neg h, if_neg (by simp [h])]
      rfl
def okNodes (t : List Nd) : Prop := ∀ x ∈ t, 0 ≤ x.f1 ∧ x.f1 < 18446744073709551616
theorem rd_at {t : List Nd} {i : Nat} (h : i < t.length) : rd_T47 t (i : Int) = t[i] := by
  unfold rd_T47
  rw [Int.toNat_natCast, List.getD_eq_getElem?_getD, List.getElem?_eq_getElem h]; rfl
def top (r : Option (List Int)) : Int := match r with
  | some [x] => x
  | _ => 0
theorem spec_l2Kind_loop (w v : Int) (t : List Nd) (hok : okNodes t) (hv0 : 0 ≤ v) (hv : v ≤ 4) (ht : t.length ≤ 48) (d : Nat) : ∀ (i : Nat) (st : List Int) (k : Nat), i + d = t.length → st.length ≤ i → 5 * d + 70 < k →
    spec_l2Kind.l0 k w v st.reverse t (t.length : Int) (i : Int) = some (top (runK w v (t.drop i) st)) := by
  induction d with
  | zero =>
    intro i st k hi hs hk
    obtain ⟨k, rfl⟩ : ∃ m, k = m + 1 := ⟨k - 1, by omega⟩
    simp only [spec_l2Kind.l0]
    rewrite [if_neg (by omega), List.drop_eq_nil_of_le (by omega)]
    simp only [runK, List.length_reverse]
    match st with
    | [] => simp [top]
    | [a] => simp [top, rd]
    | a :: b :: s => rewrite [if_neg (by simp only [List.length_cons]; omega)]; rfl
  | succ d ih =>
    intro i st k hi hs hk
    obtain ⟨k, rfl⟩ : ∃ m, k = m + 2 := ⟨k - 2, by omega⟩
    have hit : i < t.length := by omega
    have q0 : (0 : Int) ≤ (i : Int) := by omega
    have q1 : (i : Int) < (t.length : Int) := by omega
    have q2 : 3 < k + 1 := by omega
    have q3 : 65 < k + 1 := by omega
    have q4 : i + 1 + d = t.length := by omega
    have q5 : st.length ≤ 48 := by omega
    have e1 : wrap64 ((i : Int) + 1) = ((i + 1 : Nat) : Int) := by rw [wrap64_id _ (by omega) (by omega)]; omega
    have hx := hok t[i] (List.getElem_mem hit)
    obtain ⟨mm, pp, rr, hn, b0, b1, b2, b3, b4, b5⟩ := need_is t[i].f0
    have hdrop : t.drop i = t[i] :: t.drop (i + 1) := List.drop_eq_getElem_cons hit
    simp only [spec_l2Kind.l0]
    rewrite [if_pos q1, if_pos q0, if_pos q1, rd_at hit, need_spec _ _ q2, hn]
    simp only [Option.bind_some]
    rewrite [hdrop]
    simp only [runK]
    unfold stepK
    simp only [hn]
    clear hdrop
    by_cases h0 : rr = 0
    · rewrite [if_pos h0, if_pos h0]
      simp only [spec_l2Kind.j2, if_true]
      rfl
    · rewrite [if_neg h0, if_neg h0, leaf_spec _ w v _ _ q3 hv0 hv hx.1 hx.2]
      clear hx
      simp only [Option.bind_some]
      by_cases h1 : leafB w v t[i] = true
      · rewrite [if_pos h1, if_pos h1]
        simp only [spec_l2Kind.j2, List.length_reverse]
        by_cases h2 : (st.length : Int) < mm
        · rewrite [if_pos (by simpa using h2), if_pos h2]
          rfl
        · rewrite [if_neg (by simpa using h2), if_neg h2]
          obtain ⟨m, hm⟩ := Int.eq_ofNat_of_zero_le b0
          rw [hm]
          have hm2 : (m : Int) ≤ 2 := by omega
          obtain ⟨k', hk', he⟩ := spec_pop w v pp rr t (t.length : Int) (i : Int) m st k (by omega) q5 hm2 (by omega)
          rewrite [he, Int.toNat_natCast, e1]
          by_cases h3 : (st.take m).all (fun y => y == pp) = true
          · rewrite [if_pos h3, if_pos h3]
            have := ih (i + 1) (rr :: st.drop m) k' q4 (by simp only [List.length_cons, List.length_drop]; omega) (by omega)
            rw [List.reverse_cons] at this
            rw [this]
            rfl
          · rewrite [if_neg h3, if_neg h3]
            rfl
      · rewrite [if_neg h1, if_neg h1]
        simp only [spec_l2Kind.j2, if_true]
        rfl
/-- The kind of a good term, else 0. -/
def kindT (w v : Int) (t : List Nd) : Int :=
  if 1 ≤ w ∧ w ≤ 64 ∧ 1 ≤ v ∧ v ≤ 4 ∧ 1 ≤ t.length ∧ t.length ≤ 48 then top (runK w v t []) else 0
theorem l2Kind_val (k : Nat) (w v : Int) (t : List Nd) (hok : okNodes t) (hk : 400 < k) : spec_l2Kind.f k w v t = some (kindT w v t) := by
  obtain ⟨k, rfl⟩ : ∃ m, k = m + 1 := ⟨k - 1, by omega⟩
  unfold spec_l2Kind.f kindT
  rw [l1Wide_val, l1In_val, l1In_val]
  simp only [Option.bind_some, decide_eq_true_eq, spec_l2Kind.j0]
  by_cases h1 : 1 ≤ w ∧ w ≤ 64
  · rewrite [if_pos h1]
    by_cases h2 : 1 ≤ v ∧ v ≤ 4
    · rewrite [if_pos h2]
      by_cases h3 : 1 ≤ (t.length : Int) ∧ (t.length : Int) ≤ 48
      · rewrite [if_neg (by simp [h3]), if_pos (by omega)]
        have := spec_l2Kind_loop w v t hok (by omega) h2.2 (by omega) t.length 0 [] k (by omega) (by simp) (by omega)
        simpa using this
      · rewrite [if_pos (by rw [decide_eq_false h3]; rfl), if_neg (by omega)]
        rfl
    · rewrite [if_neg h2, if_pos trivial, if_neg (by omega)]
      rfl
  · rewrite [if_neg h1, if_pos trivial, if_neg (by omega)]
    rfl
theorem goodTerm_spec (k : Nat) (w v : Int) (t : List Nd) (hok : okNodes t) (hk : 400 < k) : spec_GoodTerm.f k w v t = some (decide (kindT w v t > 0)) := by
  unfold spec_GoodTerm.f
  rw [l2Kind_val k w v t hok hk]
  rfl
theorem drop_rev (st : List Int) (m : Nat) (h : m ≤ st.length) : st.reverse.drop (st.length - m) = (st.take m).reverse := by
  rw [List.drop_reverse]; congr 2; omega
theorem take_rev (st : List Int) (m : Nat) (h : m ≤ st.length) : st.reverse.take (st.length - m) = (st.drop m).reverse := by
  rw [List.take_reverse]; congr 2; omega
theorem any_ne_all (l : List Int) (p : Int) : (l.reverse.any fun x => x != p) = !(l.all fun y => y == p) := by
  rw [List.any_reverse, List.not_all_eq_any_not]
  rfl
/-- The program's verdict: one value remains. -/
def oneLeft (r : Option (List Int)) : Bool := match r with
  | some [_] => true
  | _ => false
theorem impl_GoodTerm_loop (w v : Int) (t : List Nd) (hok : okNodes t) (hv0 : 0 ≤ v) (hv : v ≤ 4) (ht : t.length ≤ 48) (d : Nat) : ∀ (i : Nat) (st : List Int) (k : Nat), i + d = t.length → st.length ≤ i → d + 10 < k →
    impl_GoodTerm.l0 k w v st.reverse t (t.length : Int) (i : Int) = some (oneLeft (runK w v (t.drop i) st)) := by
  induction d with
  | zero =>
    intro i st k hi hs hk
    obtain ⟨k, rfl⟩ : ∃ m, k = m + 1 := ⟨k - 1, by omega⟩
    simp only [impl_GoodTerm.l0]
    rw [if_neg (by omega), List.drop_eq_nil_of_le (by omega)]
    simp only [runK, List.length_reverse]
    match st with
    | [] => rfl
    | [a] => rfl
    | a :: b :: s => simp only [List.length_cons, oneLeft, Option.some.injEq]; rw [beq_eq_false_iff_ne]; omega
  | succ d ih =>
    intro i st k hi hs hk
    obtain ⟨k, rfl⟩ : ∃ m, k = m + 1 := ⟨k - 1, by omega⟩
    have hit : i < t.length := by omega
    have q0 : (0 : Int) ≤ (i : Int) := by omega
    have q1 : (i : Int) < (t.length : Int) := by omega
    have q2 : 3 < k := by omega
    have q4 : i + 1 + d = t.length := by omega
    have q5 : st.length ≤ 48 := by omega
    have e1 : wrap64 ((i : Int) + 1) = ((i + 1 : Nat) : Int) := by rw [wrap64_id _ (by omega) (by omega)]; omega
    have hx := hok t[i] (List.getElem_mem hit)
    obtain ⟨mm, pp, rr, hn, b0, b1, b2, b3, b4, b5⟩ := need_is t[i].f0
    obtain ⟨n1, n2, n3⟩ := needI_eq t[i].f0
    rw [hn] at n1 n2 n3
    simp only at n1 n2 n3
    have hdrop : t.drop i = t[i] :: t.drop (i + 1) := List.drop_eq_getElem_cons hit
    simp only [impl_GoodTerm.l0]
    rewrite [if_pos q1, if_pos q0, if_pos q1, rd_at hit, need_impl _ _ q2]
    simp only [Option.bind_some]
    rewrite [n1, n2, hdrop]
    simp only [runK]
    unfold stepK
    simp only [hn]
    clear hdrop n1 n2 hn
    by_cases h0 : rr = 0
    · rewrite [if_pos h0, if_pos h0]
      rfl
    · rewrite [if_neg h0, if_neg h0, leaf_impl w v _ _ hv0 hv hx.1]
      clear hx
      simp only [Option.bind_some]
      by_cases h1 : leafB w v t[i] = true
      · rewrite [if_pos h1, if_pos h1]
        clear h1
        have hl : (st.reverse.length : Int) = (st.length : Int) := by simp
        obtain ⟨m, hm⟩ := Int.eq_ofNat_of_zero_le b0
        subst hm
        have e2 : wrap64 ((st.reverse.length : Int) - (m : Int)) = (st.length : Int) - (m : Int) := by rw [wrap64_id _ (by omega) (by omega), hl]
        rewrite [e2]
        by_cases h2 : (st.length : Int) < (m : Int)
        · rewrite [if_pos (by omega), if_pos h2]
          rfl
        · have hms : m ≤ st.length := by omega
          have e3 : ((st.length : Int) - (m : Int)).toNat = st.length - m := by omega
          rewrite [if_neg (by omega), if_pos (by omega), if_pos (by omega), if_neg h2, e3, drop_rev st m hms, take_rev st m hms]
          unfold impl_GoodTerm_any.f
          simp only [Option.bind_some]
          rewrite [any_ne_all, Int.toNat_natCast]
          have hpart : ((st.take m).all fun y => y == (needI t[i].f0).2.1) = ((st.take m).all fun y => y == pp) := by
            by_cases hz : (m : Int) = 0
            · obtain rfl : m = 0 := by omega
              rfl
            · rw [n3 hz]
          rewrite [hpart]
          clear hpart n3
          by_cases h3 : (st.take m).all (fun y => y == pp) = true
          · rewrite [if_neg (by rw [h3]; decide), if_pos h3, if_pos (by simp; omega), e1]
            have := ih (i + 1) (rr :: st.drop m) k q4 (by simp only [List.length_cons, List.length_drop]; omega) (by omega)
            rw [List.reverse_cons] at this
            exact this
          · rewrite [if_pos (by simpa using h3), if_neg h3]
            rfl
      · rewrite [if_neg h1, if_neg h1]
        rfl
theorem step_pos (w v : Int) (st : List Int) (x : Nd) (st' : List Int) (h : stepK w v st x = some st') (hs : ∀ y ∈ st, y = 1 ∨ y = 2) : ∀ y ∈ st', y = 1 ∨ y = 2 := by
  obtain ⟨mm, pp, rr, hn, b0, b1, b2, b3, b4, b5⟩ := need_is x.f0
  unfold stepK at h
  rw [hn] at h
  simp only at h
  split at h
  · cases h
  · split at h
    · split at h
      · cases h
      · split at h
        · obtain rfl := Option.some.inj h
          intro y hy
          rcases List.mem_cons.1 hy with rfl | hy
          · omega
          · exact hs y (List.mem_of_mem_drop hy)
        · cases h
    · cases h
theorem run_pos (w v : Int) (t : List Nd) : ∀ st st', runK w v t st = some st' → (∀ y ∈ st, y = 1 ∨ y = 2) → ∀ y ∈ st', y = 1 ∨ y = 2 := by
  induction t with
  | nil => intro st st' h hs; simp only [runK, Option.some.injEq] at h; subst h; exact hs
  | cons x t ih =>
    intro st st' h hs
    simp only [runK, Option.bind_eq_some_iff] at h
    obtain ⟨s1, h1, h2⟩ := h
    exact ih _ _ h2 (step_pos w v st x s1 h1 hs)
theorem oneLeft_top (w v : Int) (t : List Nd) : oneLeft (runK w v t []) = decide (top (runK w v t []) > 0) := by
  cases h : runK w v t [] with
  | none => rfl
  | some st =>
    have hp := run_pos w v t [] st h (fun y hy => absurd hy (by simp))
    match st with
    | [] => rfl
    | [a] => have := hp a (by simp); show true = decide (a > 0); symm; exact decide_eq_true (by omega)
    | a :: b :: s => rfl
theorem goodTerm_impl (k : Nat) (w v : Int) (t : List Nd) (hok : okNodes t) (hk : 400 < k) : impl_GoodTerm.f k w v t = some (decide (kindT w v t > 0)) := by
  obtain ⟨k, rfl⟩ : ∃ m, k = m + 1 := ⟨k - 1, by omega⟩
  unfold impl_GoodTerm.f kindT
  rw [isWide_val, isVars_val]
  simp only [Option.bind_some, decide_eq_true_eq, impl_GoodTerm.j0]
  by_cases h1 : 1 ≤ w ∧ w ≤ 64
  · rewrite [if_pos h1]
    by_cases h2 : 1 ≤ v ∧ v ≤ 4
    · rewrite [if_pos h2]
      by_cases h3 : (t.length : Int) < 1
      · rewrite [if_pos h3, if_pos trivial, if_neg (by omega)]
        rfl
      · rewrite [if_neg h3]
        by_cases h4 : (t.length : Int) > 48
        · rewrite [if_pos h4, if_neg (by omega)]
          rfl
        · rewrite [if_neg h4, if_pos (by omega)]
          have := impl_GoodTerm_loop w v t hok (by omega) h2.2 (by omega) t.length 0 [] k (by omega) (by simp) (by omega)
          rw [List.drop_zero] at this
          rw [← oneLeft_top]
          exact this
    · rewrite [if_neg h2, if_pos trivial, if_neg (by omega)]
      rfl
  · rewrite [if_neg h1, if_pos trivial, if_neg (by omega)]
    rfl
end Go.Proofs.Ythageckjjbgonaa.Pure
