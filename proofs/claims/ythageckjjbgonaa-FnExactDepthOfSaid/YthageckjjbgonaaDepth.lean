/- The law on DepthOf: the reference's recursion over places and the program's stack come to the tree's depth. Conditions: those of the law's own Pure. -/
import Derived.Test.YthageckjjbgonaaTree
import Derived.Test.YthageckjjbgonaaPlain
import Derived.Test.YthageckjjbgonaaX29
import Derived.Test.YthageckjjbgonaaX30
import Derived.Test.YthageckjjbgonaaX31
namespace Go.Proofs.Ythageckjjbgonaa.Pure
open Go.RowKit Go.Proofs.Ythageckjjbgonaa.X Go.Proofs.YthageckjjbgonaaW.PrintWords Go.Proofs.YthageckjjbgonaaW.PrintLast Go.Proofs.Ythageckjjbgonaa.Bits

/-- Where the tree that ends at a place begins. -/
theorem from_val (w v : Int) (t : List Nd) (ht : t.length ≤ 48) (tr : Tr) : ∀ (lo k : Nat) (kd i : Int), stands t lo tr → tr.good w v kd → i = (lo : Int) + tr.flat.length - 1 → 3 * tr.flat.length + 5 < k →
    spec_l2From.f k t i = some (lo : Int) := by
  induction tr with
  | leaf x =>
    intro lo k kd i hs hg hi hk
    obtain ⟨k, rfl⟩ : ∃ m, k = m + 2 := ⟨k - 2, by omega⟩
    have hl := stands_len hs
    have hp := flat_pos (.leaf x)
    have hr := stands_rd hs i hi
    simp only [spec_l2From.f]
    rewrite [if_pos (by omega), if_pos (by omega), hr, need_spec _ _ (by omega)]
    simp only [Option.bind_some, Tr.root, hg.1, spec_l2From.l0]
    rewrite [if_neg (by omega)]
    simp only [Tr.flat, List.length_cons, List.length_nil] at hi
    congr 1; omega
  | one x a iha =>
    intro lo k kd i hs hg hi hk
    obtain ⟨k, rfl⟩ : ∃ m, k = m + 3 := ⟨k - 3, by omega⟩
    have hl := stands_len hs
    have hp := flat_pos (.one x a)
    have hr := stands_rd hs i hi
    simp only [Tr.flat, List.length_append, List.length_cons, List.length_nil] at hi hl hk hp
    have hpa := flat_pos a
    have ha := iha lo (k + 1) _ (i - 1) (stands_one hs) hg.2.2.2.2 (by omega) (by omega)
    have e1 : wrap64 (i - 1) = i - 1 := wrap64_id _ (by omega) (by omega)
    simp only [spec_l2From.f]
    rewrite [if_pos (by omega), if_pos (by omega), hr, need_spec _ _ (by omega)]
    simp only [Option.bind_some, Tr.root, hg.1, spec_l2From.l0]
    rewrite [if_pos (by omega), e1, ha]
    simp only [Option.bind_some]
    rewrite [show wrap64 ((1 : Int) - 1) = 0 from wrap64_id _ (by omega) (by omega), if_neg (by omega)]
    rfl
  | two x a b iha ihb =>
    intro lo k kd i hs hg hi hk
    obtain ⟨k, rfl⟩ : ∃ m, k = m + 4 := ⟨k - 4, by omega⟩
    have hl := stands_len hs
    have hp := flat_pos (.two x a b)
    have hr := stands_rd hs i hi
    simp only [Tr.flat, List.length_append, List.length_cons, List.length_nil] at hi hl hk hp
    have hpa := flat_pos a
    have hpb := flat_pos b
    obtain ⟨s1, s2⟩ := stands_two hs
    have hb := ihb (lo + a.flat.length) (k + 2) _ (i - 1) s2 hg.2.2.2.2.2 (by omega) (by omega)
    have ha := iha lo (k + 1) _ (((lo + a.flat.length : Nat) : Int) - 1) s1 hg.2.2.2.2.1 (by omega) (by omega)
    have e1 : wrap64 (i - 1) = i - 1 := wrap64_id _ (by omega) (by omega)
    have e2 : wrap64 (((lo + a.flat.length : Nat) : Int) - 1) = ((lo + a.flat.length : Nat) : Int) - 1 := wrap64_id _ (by omega) (by omega)
    have e3 : wrap64 ((2 : Int) - 1) = 1 := wrap64_id _ (by omega) (by omega)
    have e4 : wrap64 ((1 : Int) - 1) = 0 := wrap64_id _ (by omega) (by omega)
    simp only [spec_l2From.f]
    rewrite [if_pos (by omega), if_pos (by omega), hr, need_spec _ _ (by omega)]
    simp only [Option.bind_some, Tr.root, hg.1, spec_l2From.l0]
    rewrite [if_pos (by omega), e1, hb]
    simp only [Option.bind_some]
    rewrite [e3, if_pos (by omega), e2, ha]
    simp only [Option.bind_some]
    rewrite [e4, if_neg (by omega)]
    rfl
/-- A tree's depth. -/
def dep : Tr → Int
  | .leaf _ => 1
  | .one _ a => mx 0 (dep a) + 1
  | .two _ a b => mx (mx 0 (dep a)) (dep b) + 1
theorem dep_range (tr : Tr) : 1 ≤ dep tr ∧ dep tr ≤ tr.flat.length := by
  induction tr with
  | leaf x => simp [dep, Tr.flat]
  | one x a iha =>
    simp only [dep, Tr.flat, List.length_append, List.length_cons, List.length_nil]
    unfold mx; omega
  | two x a b iha ihb =>
    simp only [dep, Tr.flat, List.length_append, List.length_cons, List.length_nil]
    unfold mx; omega
theorem depth_spec (w v : Int) (t : List Nd) (ht : t.length ≤ 48) (tr : Tr) : ∀ (lo k : Nat) (kd i : Int), stands t lo tr → tr.good w v kd → i = (lo : Int) + tr.flat.length - 1 → 3 * tr.flat.length + 5 < k →
    spec_l3Depth.f k t i = some (dep tr) := by
  induction tr with
  | leaf x =>
    intro lo k kd i hs hg hi hk
    obtain ⟨k, rfl⟩ : ∃ m, k = m + 1 := ⟨k - 1, by omega⟩
    have hl := stands_len hs
    have hp := flat_pos (.leaf x)
    have hr := stands_rd hs i hi
    simp only [spec_l3Depth.f]
    rewrite [if_pos (by omega), if_pos (by omega), hr, need_spec _ _ (by omega)]
    simp only [Option.bind_some, Tr.root, hg.1]
    rfl
  | one x a iha =>
    intro lo k kd i hs hg hi hk
    obtain ⟨k, rfl⟩ : ∃ m, k = m + 1 := ⟨k - 1, by omega⟩
    have hl := stands_len hs
    have hp := flat_pos (.one x a)
    have hr := stands_rd hs i hi
    simp only [Tr.flat, List.length_append, List.length_cons, List.length_nil] at hi hl hk hp
    have hpa := flat_pos a
    have hda := dep_range a
    have ha := iha lo k _ (i - 1) (stands_one hs) hg.2.2.2.2 (by omega) (by omega)
    have e1 : wrap64 (i - 1) = i - 1 := wrap64_id _ (by omega) (by omega)
    have e2 : wrap64 (dep a + 1) = dep a + 1 := wrap64_id _ (by omega) (by omega)
    simp only [spec_l3Depth.f]
    rewrite [if_pos (by omega), if_pos (by omega), hr, need_spec _ _ (by omega)]
    simp only [Option.bind_some, Tr.root, hg.1]
    rewrite [if_neg (by decide), e1, ha]
    simp only [Option.bind_some]
    rewrite [if_neg (by decide), e2]
    simp only [dep]; unfold mx
    congr 1; omega
  | two x a b iha ihb =>
    intro lo k kd i hs hg hi hk
    obtain ⟨k, rfl⟩ : ∃ m, k = m + 1 := ⟨k - 1, by omega⟩
    have hl := stands_len hs
    have hp := flat_pos (.two x a b)
    have hr := stands_rd hs i hi
    simp only [Tr.flat, List.length_append, List.length_cons, List.length_nil] at hi hl hk hp
    have hpa := flat_pos a
    have hpb := flat_pos b
    have hda := dep_range a
    have hdb := dep_range b
    obtain ⟨s1, s2⟩ := stands_two hs
    have hb := ihb (lo + a.flat.length) k _ (i - 1) s2 hg.2.2.2.2.2 (by omega) (by omega)
    have hf := from_val w v t ht b (lo + a.flat.length) k _ (i - 1) s2 hg.2.2.2.2.2 (by omega) (by omega)
    have ha := iha lo k _ (((lo + a.flat.length : Nat) : Int) - 1) s1 hg.2.2.2.2.1 (by omega) (by omega)
    have e1 : wrap64 (i - 1) = i - 1 := wrap64_id _ (by omega) (by omega)
    have e2 : wrap64 (((lo + a.flat.length : Nat) : Int) - 1) = ((lo + a.flat.length : Nat) : Int) - 1 := wrap64_id _ (by omega) (by omega)
    have e3 : wrap64 (dep a + 1) = dep a + 1 := wrap64_id _ (by omega) (by omega)
    have e4 : wrap64 (dep b + 1) = dep b + 1 := wrap64_id _ (by omega) (by omega)
    simp only [spec_l3Depth.f]
    rewrite [if_pos (by omega), if_pos (by omega), hr, need_spec _ _ (by omega)]
    simp only [Option.bind_some, Tr.root, hg.1]
    rewrite [if_neg (by decide), e1, hb]
    simp only [Option.bind_some]
    rewrite [if_pos trivial, hf]
    simp only [Option.bind_some]
    rewrite [e2, ha]
    simp only [Option.bind_some, dep]
    rewrite [e3, e4]
    unfold mx
    by_cases h : dep a > dep b
    · rewrite [if_pos h]; congr 1; omega
    · rewrite [if_neg h]; congr 1; omega
/-- One node over the stack of depths. -/
def stepD (x : Nd) (st : List Int) : Option (List Int) :=
  if (need x.f0).1 = 0 then some (1 :: st)
  else if (need x.f0).1 = 1 then (match st with | a :: r => some ((mx 0 a + 1) :: r) | _ => none)
  else (match st with | b :: a :: r => some ((mx (mx 0 a) b + 1) :: r) | _ => none)
theorem depth_tree (w v : Int) (tr : Tr) (st : List Int) (k : Int) (h : tr.good w v k) : runS stepD tr.flat st = some (dep tr :: st) :=
  runS_tree w v stepD dep (fun x st k h => by unfold stepD; rw [if_pos h.1]; rfl)
    (fun x a st k h => by unfold stepD; rw [if_neg (by rw [h.1]; decide), if_pos h.1]; rfl)
    (fun x a b st k h => by unfold stepD; rw [if_neg (by rw [h.1]; decide), if_neg (by rw [h.1]; decide)]; rfl) tr st k h
theorem bnd_cons {b a : Int} {s : List Int} (h : 0 ≤ a ∧ a ≤ b) (h2 : ∀ y ∈ s, 0 ≤ y ∧ y ≤ b) : ∀ y ∈ a :: s, 0 ≤ y ∧ y ≤ b := by
  intro y hy
  rcases List.mem_cons.1 hy with rfl | hy
  · exact h
  · exact h2 y hy
theorem depth_loop (t : List Nd) (ht : t.length ≤ 48) (r : Int) (d : Nat) : ∀ (i k : Nat) (st : List Int), i + d = t.length → (∀ y ∈ st, 0 ≤ y ∧ y ≤ (i : Int)) → st.length ≤ i → 5 * d + 10 < k →
    runS stepD (t.drop i) st = some [r] → impl_depthOf.l0 k st.reverse t (t.length : Int) (i : Int) = some r := by
  induction d with
  | zero =>
    intro i k st hi hb hsl hk h
    obtain ⟨k, rfl⟩ : ∃ m, k = m + 1 := ⟨k - 1, by omega⟩
    rw [List.drop_eq_nil_of_le (by omega)] at h
    simp only [runS, Option.some.injEq] at h
    subst h
    simp only [impl_depthOf.l0]
    rewrite [if_neg (by omega), if_pos (by simp)]
    rfl
  | succ d ih =>
    intro i k st hi hb hsl hk h
    obtain ⟨k, rfl⟩ : ∃ m, k = m + 4 := ⟨k - 4, by omega⟩
    have hit : i < t.length := by omega
    have e1 : wrap64 ((i : Int) + 1) = ((i + 1 : Nat) : Int) := by rw [wrap64_id _ (by omega) (by omega)]; omega
    have hdrop : t.drop i = t[i] :: t.drop (i + 1) := List.drop_eq_getElem_cons hit
    rw [hdrop] at h
    simp only [runS, Option.bind_eq_some_iff] at h
    obtain ⟨st', h1, h2⟩ := h
    obtain ⟨m, p, rr, hn, b0, b1, b2, b3, b4, b5⟩ := need_is t[i].f0
    obtain ⟨n1, n2, n3⟩ := needI_eq t[i].f0
    rw [hn] at n1
    simp only at n1
    unfold stepD at h1
    rw [hn] at h1
    simp only at h1
    have hm : m = 0 ∨ m = 1 ∨ m = 2 := by omega
    clear hdrop hn n2 n3 b2 b3 b4 b5
    simp only [impl_depthOf.l0]
    rewrite [if_pos (by omega), if_pos (by omega), if_pos (by omega), rd_at hit, need_impl _ _ (by omega)]
    simp only [Option.bind_some]
    rewrite [n1]
    rcases hm with rfl | rfl | rfl
    · obtain rfl : 1 :: st = st' := by simpa using h1
      have e2 : wrap64 ((st.reverse.length : Int) - 0) = (st.length : Int) := by rw [wrap64_id _ (by rw [List.length_reverse]; omega) (by rw [List.length_reverse]; omega), List.length_reverse]; omega
      rewrite [e2, if_pos (by omega), if_pos (by rw [List.length_reverse]; omega), Int.toNat_natCast, List.drop_eq_nil_of_le (by rw [List.length_reverse]; omega)]
      simp only [impl_depthOf.l1]
      rewrite [if_neg (by decide), if_pos (by omega), if_pos (by rw [List.length_reverse]; omega), Int.toNat_natCast, List.take_of_length_le (by rw [List.length_reverse]; omega)]
      simp only [Option.bind_some]
      rewrite [if_pos (by rw [List.length_reverse]; omega), e1, show wrap64 ((0 : Int) + 1) = 1 from wrap64_id _ (by omega) (by omega)]
      have := ih (i + 1) (k + 2) (1 :: st) (by omega) (bnd_cons (by omega) (fun y hy => by have := hb y hy; omega)) (by simp only [List.length_cons]; omega) (by omega) h2
      rw [List.reverse_cons] at this
      exact this
    · match st, hb, hsl, h1 with
      | a :: s, hb, hsl, h1 =>
        obtain rfl : (mx 0 a + 1) :: s = st' := by simpa using h1
        have ha := hb a (by simp)
        simp only [List.length_cons] at hsl
        have e2 : wrap64 (((a :: s).reverse.length : Int) - 1) = (s.length : Int) := by rw [wrap64_id _ (by rw [List.length_reverse, List.length_cons]; omega) (by rw [List.length_reverse, List.length_cons]; omega), List.length_reverse, List.length_cons]; omega
        have e3 : (a :: s).reverse.drop s.length = [a] := by rw [List.reverse_cons, List.drop_left' (by simp)]
        have e4 : (a :: s).reverse.take s.length = s.reverse := by rw [List.reverse_cons, List.take_left' (by simp)]
        have e5 : wrap64 (mx 0 a + 1) = mx 0 a + 1 := wrap64_id _ (by unfold mx; omega) (by unfold mx; omega)
        rewrite [e2, if_pos (by omega), if_pos (by rw [List.length_reverse, List.length_cons]; omega), Int.toNat_natCast, e3]
        have z1 : wrap64 ((0 : Int) + 1) = 1 := wrap64_id _ (by omega) (by omega)
        simp only [impl_depthOf.l1, z1]
        rewrite [if_pos (by simp), if_pos (by omega), if_pos (by simp), if_neg (by simp), if_pos (by omega), if_pos (by rw [List.length_reverse, List.length_cons]; omega), Int.toNat_natCast, e4]
        simp only [Option.bind_some]
        rewrite [if_pos (by rw [List.length_reverse]; omega), e1]
        have e6 : rd [a] 0 = a := rfl
        rewrite [e6, e5]
        have := ih (i + 1) (k + 1) ((mx 0 a + 1) :: s) (by omega) (bnd_cons (by unfold mx; omega) (fun y hy => by have := hb y (by simp [hy]); omega)) (by simp only [List.length_cons]; omega) (by omega) h2
        rw [List.reverse_cons] at this
        exact this
      | [], _, _, h1 => simp at h1
    · match st, hb, hsl, h1 with
      | b :: a :: s, hb, hsl, h1 =>
        obtain rfl : (mx (mx 0 a) b + 1) :: s = st' := by simpa using h1
        have ha := hb a (by simp)
        have hbb := hb b (by simp)
        simp only [List.length_cons] at hsl
        have e2 : wrap64 (((b :: a :: s).reverse.length : Int) - 2) = (s.length : Int) := by rw [wrap64_id _ (by rw [List.length_reverse, List.length_cons, List.length_cons]; omega) (by rw [List.length_reverse, List.length_cons, List.length_cons]; omega), List.length_reverse, List.length_cons, List.length_cons]; omega
        have e3 : (b :: a :: s).reverse.drop s.length = [a, b] := by rw [List.reverse_cons, List.reverse_cons, List.append_assoc, List.drop_left' (by simp)]; rfl
        have e4 : (b :: a :: s).reverse.take s.length = s.reverse := by rw [List.reverse_cons, List.reverse_cons, List.append_assoc, List.take_left' (by simp)]
        have e5 : wrap64 (mx (mx 0 a) b + 1) = mx (mx 0 a) b + 1 := wrap64_id _ (by unfold mx; omega) (by unfold mx; omega)
        rewrite [e2, if_pos (by omega), if_pos (by rw [List.length_reverse, List.length_cons, List.length_cons]; omega), Int.toNat_natCast, e3]
        have z1 : wrap64 ((0 : Int) + 1) = 1 := wrap64_id _ (by omega) (by omega)
        have z2 : wrap64 ((1 : Int) + 1) = 2 := wrap64_id _ (by omega) (by omega)
        simp only [impl_depthOf.l1, z1, z2]
        rewrite [if_pos (by simp), if_pos (by omega), if_pos (by simp), if_pos (by simp), if_pos (by omega), if_pos (by simp), if_neg (by simp), if_pos (by omega), if_pos (by rw [List.length_reverse, List.length_cons, List.length_cons]; omega), Int.toNat_natCast, e4]
        simp only [Option.bind_some]
        rewrite [if_pos (by rw [List.length_reverse]; omega), e1]
        have e6 : rd [a, b] 0 = a := rfl
        have e7 : rd [a, b] 1 = b := rfl
        rewrite [e6, e7, e5]
        have := ih (i + 1) k ((mx (mx 0 a) b + 1) :: s) (by omega) (bnd_cons (by unfold mx; omega) (fun y hy => by have := hb y (by simp [hy]); omega)) (by simp only [List.length_cons]; omega) (by omega) h2
        rw [List.reverse_cons] at this
        exact this
      | [], _, _, h1 => simp at h1
      | [_], _, _, h1 => simp at h1
/-- What DepthOf returns. -/
theorem depth_both (k : Nat) (w v : Int) (t : List Nd) (hok : okNodes t) (hk : 600 < k) : ∃ r, spec_DepthOf.f k w v t = some r ∧ impl_DepthOf.f k w v t = some r := by
  unfold spec_DepthOf.f impl_DepthOf.f
  rewrite [goodTerm_spec k w v t hok (by omega), goodTerm_impl k w v t hok (by omega)]
  simp only [Option.bind_some, decide_eq_true_eq]
  by_cases hg : kindT w v t > 0
  · rewrite [if_pos hg, if_pos hg]
    obtain ⟨tr, htr, hf⟩ := kind_tree w v t hg
    have hl := (kindT_len w v t hg).1
    have hp := flat_pos tr
    have hs : stands t 0 tr := by rw [← hf]; exact stands_all tr
    have hfl : tr.flat.length = t.length := by rw [hf]
    have e1 : wrap64 ((t.length : Int) - 1) = (t.length : Int) - 1 := wrap64_id _ (by omega) (by omega)
    have h1 := depth_spec w v t hl tr 0 k _ ((t.length : Int) - 1) hs htr (by omega) (by omega)
    have h2 : runS stepD (t.drop 0) [] = some [dep tr] := by rw [List.drop_zero, ← hf]; exact depth_tree w v tr [] _ htr
    have h3 := depth_loop t hl (dep tr) t.length 0 k [] (by omega) (by simp) (by simp) (by omega) h2
    unfold impl_depthOf.f
    rewrite [e1, h1]
    refine ⟨(dep tr, true), rfl, ?_⟩
    have h4 : impl_depthOf.l0 k [] t (t.length : Int) 0 = some (dep tr) := h3
    rewrite [h4]
    rfl
  · rewrite [if_neg hg, if_neg hg]
    exact ⟨_, rfl, rfl⟩
theorem FnExactDepthOf : laws_FnExactDepthOf.Pure := by
  intro w v l _ _ hl
  have hlen := hl.1
  simp only [maxLen] at hlen
  refine ⟨rounds l, ?_⟩
  unfold laws_FnExactDepthOf.f
  rewrite [sz_val l hlen]
  simp only [Option.bind_some]
  by_cases hs : 1048576 < l.length
  · rw [if_pos hs, if_pos (by decide)]
  · have hk : l.length < rounds l := by unfold rounds; omega
    have hk2 : 601 < rounds l := by unfold rounds; omega
    have hok := conv_ok l hl.2
    have hgo : ∀ k, rounds l ≤ k → laws_FnExactDepthOf.j0 k l (l.map conv) false = some true := by
      intro k hkk
      obtain ⟨k, rfl⟩ : ∃ m, k = m + 1 := ⟨k - 1, by omega⟩
      simp only [laws_FnExactDepthOf.j0]
      rewrite [if_neg (by decide), toNodes_val _ l (by omega) (by unfold rounds at hkk; omega)]
      simp only [Option.bind_some]
      rewrite [eqNodes_val _ _ (by simp; omega) (by simp; unfold rounds at hkk; omega)]
      rfl
    obtain ⟨r, h1, h2⟩ := depth_both (rounds l) w v (l.map conv) hok (by omega)
    rewrite [if_neg hs, if_neg (by omega), toNodes_val _ l (by omega) hk]
    simp only [Option.bind_some]
    rewrite [h1, h2]
    simp only [Option.bind_some]
    rewrite [if_pos trivial]
    have hb : (r.2 != r.2) = false := by simp
    rewrite [hb]
    exact hgo _ (Nat.le_refl _)
end Go.Proofs.Ythageckjjbgonaa.Pure
