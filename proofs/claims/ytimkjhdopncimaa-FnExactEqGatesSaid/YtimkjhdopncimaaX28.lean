/- Go functions as Lean functions, each with the proof that its call comes to just its answer. Conditions: the arguments are of their kinds. -/
import Derived.Test.YtimkjhdopncimaaX0
import Derived.StillTailTactics
namespace Go.Proofs.Ytimkjhdopncimaa.X
open Go.RowKit Go.Proofs.YtimkjhdopncimaaW.PrintWords Go.Proofs.YtimkjhdopncimaaW.PrintLast Go.Proofs.YtimkjhdopncimaaW.PrintMore
attribute [local go_sem] max2_int min2_int max_two min_two max_three min_three max_four min_four   -- for this text's walks alone
set_option linter.unusedVariables false
set_option linter.unusedSimpArgs false

/-! ### spec_l1Own: function 79 -/
def spec_l1Own.f (l0 : List Int) : Option (List Int) := (some (([] : List Int) : List Int)).bind fun y666 => (if y666.length + l0.length < 17592186044416 then (some (y666 ++ l0)) else (none))
set_option maxHeartbeats 8000000 in
set_option maxRecDepth 100000 in
theorem spec_l1Own.calls (A0 : Option Addr) (c0 : Nat) (l0 : List Int) (r : List Int) (w : World) (hr0 : Kd.C (Kd.int .i64) w A0 l0.length l0) (hc0 : l0.length ≤ c0) (h : spec_l1Own.f l0 = some r) :
  Calls Try.prog 79 #[.slice A0 l0.length c0] w fun e w' => ∃ v0_ : Value, e = .returned (v0_) ∧ Kd.R (Kd.int .i64) 3 w' w.heap.size (fun _ => True) v0_ r ∧ Below w.heap.size w w' := by
 have HR0 := Aside0.mk hr0
 have HC0 := Aside0.mk hc0
 clear hr0 hc0
 have HB := Aside0.mk (Below.refl w.heap.size w)
 have H : ((some (([] : List Int) : List Int)).bind fun y666 => (if y666.length + l0.length < 17592186044416 then (some (y666 ++ l0)) else (none))) = some r := h
 clear h
 obtain ⟨y666, hy666⟩ : ∃ y_ : List Int, y_ = (([] : List Int)) := ⟨_, rfl⟩
 replace H : (if y666.length + l0.length < 17592186044416 then (some (y666 ++ l0)) else (none)) = some r := qY hy666 H
 have Ny666 := Aside0.mk hy666
 clear hy666
 by_cases c2 : y666.length + l0.length < 17592186044416
 ·rw [if_pos c2] at H
  have LMc2 := Aside0.mk c2
  clear c2
  obtain ⟨y669, hy669⟩ : ∃ y_ : List Int, y_ = (y666 ++ l0) := ⟨_, rfl⟩
  replace H : (some y669) = some r := qY hy669 H
  have Ny669 := Aside0.mk hy669
  clear hy669
  obtain rfl := Option.some.inj H
  go_enter Try.func79, Try.ntmps79
  go_wp2_with (first | ((with_reducible refine gate_dst (N := 3) rfl ?_); refine Kd.R_lit (Kd.int .i64) _ 3 ?hg (N := 3) ?hd (xs := ([] : List Int)) (inner := []) (ok := fun _ => True) (okp := fun _ => True) ?hr ?hp (fun _ hk => hk) trivial (Below.refl _ _) (Nat.le_refl _) (by simp) ?_; (case hd => rfl); (case hg => rfl); (case hr => first | (go_simp; done) | (go_simp; rfl)); (case hp => exact (Reps.none _ _)); intro v667 w3 ho4 hb hg_ hnew_; clear hg_ hnew_; (first | rw [← Ny666.out] at ho4 | (simp only [Int.reduceToNat] at ho4; rw [← Ny666.out] at ho4)); have n0_ := Aside0.mk (Kd.R_lower ho4 (below_size (qB))); have n1_ := Aside0.mk (below_step (qB) hb); clear HB; have HO668 := n0_; have HB := n1_; clear n0_ n1_; clear hb ho4) | ((with_reducible refine gate_builtin (b := .append) (xs := #[.tmp 3, .tmp 4]) rfl ?_); at_builtin; refine Kd.R_append_rows (Kd.int .i64) (w0 := w) w.heap.size rfl (.tmp 3) (.tmp 4) 23 3 (.int .i64 0) 8 rfl Try.underlying23 info3 rfl (by decide) (by omega) v667 y666 l0 _ _ _ (fun _ => True) (fun _ => False) rfl rfl ?aO ?aR (fun _ _ h => h) (fun _ h => h.elim) ?aF ?aB ?aS ?aL ?_; (case aR => exact qC (Kd.C_below HR0.out HB.out)); (case aB => exact (qB)); (case aF => exact (fun _ _ => trivial)); (case aO => exact (qR HO668.out)); (case aS => exact (below_size (qB))); (case aL => have := LMc2.out; omega); intro v670 w5 ho hb hg hat; rw [← Ny669.out] at ho; have n0_ := Aside0.mk (hb); have n1_ := Aside0.mk (ho); clear HB; clear HO668; have HB := n0_; have HO671 := n1_; clear n0_ n1_; clear ho hb hg hat))
  go_ret
  exact ⟨_, qE, qR HO671.out, qB⟩
 ·rw [if_neg c2] at H
  exact absurd H (by simp)

/-! ### spec_l4Own: function 59 -/
def spec_l4Own.f (a0_0 : Int) (l0_1 : List (S59)) (l0_2 : List Int) : Option (Int × (List (S59)) × List Int) := (some (([] : List (S59)) : List (S59))).bind fun y674 => (if y674.length + l0_1.length < 5864062014805 then ((spec_l1Own.f l0_2).bind fun t680 => (some (a0_0, (y674 ++ l0_1), t680))) else (none))
def spec_l4Own.T1 : Bool × List (List Nat × List Nat) := (true, [([], []), ([0], [0]), ([], []), ([], []), ([3], [3]), ([2, 4], [2, 4]), ([], []), ([6], [6]), ([7, 5], [7]), ([1, 5, 8], [1, 5, 8]), ([9, 8, 0, 1, 2, 3, 4, 5, 6, 7, 8, 9], [9])])
def spec_l4Own.B1 : List Nat := [0, 1, 0, 0, 8, 28, 0, 64, 252, 511, 1023]
theorem spec_l4Own.tab1 : rtab .any (opsOf Try.f59 1) = spec_l4Own.T1 := by kernel_rfl
theorem spec_l4Own.bits1 : waitsOk spec_l4Own.T1.2 spec_l4Own.B1 = true := by kernel_rfl
set_option maxHeartbeats 8000000 in
set_option maxRecDepth 100000 in
theorem spec_l4Own.calls (a0_0 : Int) (A0_1 : Option Addr) (c0_1 : Nat) (l0_1 : List (S59)) (A0_2 : Option Addr) (c0_2 : Nat) (l0_2 : List Int) (r1 : Int) (r2 : List (S59)) (r3 : List Int) (w : World) (hr0_1 : Kd.C k59 w A0_1 l0_1.length l0_1) (hc0_1 : l0_1.length ≤ c0_1) (hr0_2 : Kd.C (Kd.int .i64) w A0_2 l0_2.length l0_2) (hc0_2 : l0_2.length ≤ c0_2) (h : spec_l4Own.f a0_0 l0_1 l0_2 = some (r1, r2, r3)) :
  Calls Try.prog 59 #[.agg #[.int .i64 a0_0, .slice A0_1 l0_1.length c0_1, .slice A0_2 l0_2.length c0_2]] w fun e w' => ∃ v1_ v2_ : Value, e = .returned (.agg #[.int .i64 r1, v1_, v2_]) ∧ Kd.R k59 59 w' w.heap.size (fun _ => True) v1_ r2 ∧ Kd.R (Kd.int .i64) 3 w' w.heap.size (fun _ => True) v2_ r3 ∧ Below w.heap.size w w' := by
 have hu30 := Try.underlying30
 have HR0_1 := Aside0.mk hr0_1
 have HC0_1 := Aside0.mk hc0_1
 clear hr0_1 hc0_1
 have HR0_2 := Aside0.mk hr0_2
 have HC0_2 := Aside0.mk hc0_2
 clear hr0_2 hc0_2
 have HB := Aside0.mk (Below.refl w.heap.size w)
 have H : ((some (([] : List (S59)) : List (S59))).bind fun y674 => (if y674.length + l0_1.length < 5864062014805 then ((spec_l1Own.f l0_2).bind fun t680 => (some (a0_0, (y674 ++ l0_1), t680))) else (none))) = some (r1, r2, r3) := h
 clear h
 obtain ⟨y674, hy674⟩ : ∃ y_ : List (S59), y_ = (([] : List (S59))) := ⟨_, rfl⟩
 replace H : (if y674.length + l0_1.length < 5864062014805 then ((spec_l1Own.f l0_2).bind fun t680 => (some (a0_0, (y674 ++ l0_1), t680))) else (none)) = some (r1, r2, r3) := qY hy674 H
 have Ny674 := Aside0.mk hy674
 clear hy674
 by_cases c2 : y674.length + l0_1.length < 5864062014805
 ·rw [if_pos c2] at H
  have LMc2 := Aside0.mk c2
  clear c2
  obtain ⟨y677, hy677⟩ : ∃ y_ : List (S59), y_ = (y674 ++ l0_1) := ⟨_, rfl⟩
  replace H : ((spec_l1Own.f l0_2).bind fun t680 => (some (a0_0, y677, t680))) = some (r1, r2, r3) := qY hy677 H
  have Ny677 := Aside0.mk hy677
  clear hy677
  replace H := Option.bind_eq_some_iff.mp H
  obtain ⟨t680, A30, H⟩ := H
  replace H : (some (a0_0, y677, t680)) = some (r1, r2, r3) := H
  have A3 := Aside0.mk A30
  clear A30
  simp only [Option.some.injEq, Prod.mk.injEq] at H
  obtain ⟨rfl, rfl, rfl⟩ := H
  go_enter Try.func59, Try.ntmps59
  try go_wp2_with (first | ((with_reducible refine gate_dst (N := 1) rfl ?_); refine box_event ?hg (N := 1) ?hd (cs := #[.int .i64 a0_0, .slice A0_1 l0_1.length c0_1, .slice A0_2 l0_2.length c0_2]) (t := 30) ?hr ?_; (case hd => rfl); (case hg => rfl); (case hr => first | (go_simp; done) | (go_simp; rfl)); intro gb672 hg w4 hbox hb; have n0_ := Aside0.mk (below_step (qB) hb); have n1_ := Aside0.mk (hbox); have n2_ := Aside0.mk ((by rw [hg]; exact (below_size (qB)) : w.heap.size ≤ gb672)); have n3_ := Aside0.mk ((by rw [hg]; exact (below_size (qB)) : w.heap.size ≤ gb672)); clear HB; have HB := n0_; have BK672 := n1_; have GW672 := n2_; have GE672 := n3_; clear n0_ n1_ n2_ n3_; clear hb hbox hg) | ((with_reducible refine gate_dst (N := 2) rfl ?_); refine box_event ?hg (N := 2) ?hd (cs := #[.int .i64 0, .slice none 0 0, .slice none 0 0]) (t := 30) ?hr ?_; (case hd => rfl); (case hg => rfl); (case hr => first | (go_simp; done) | (go_simp; rfl)); intro gb673 hg w5 hbox hb; have n0_ := Aside0.mk (blk_below (g := gb672) (o := .cells #[.int .i64 a0_0, .slice A0_1 l0_1.length c0_1, .slice A0_2 l0_2.length c0_2] 30 (0, 0)) (qK BK672.out) hb); have n1_ := Aside0.mk (below_step (qB) hb); have n2_ := Aside0.mk (hbox); have n3_ := Aside0.mk ((by rw [hg]; exact (below_size (qB)) : w.heap.size ≤ gb673)); have n4_ := Aside0.mk ((by rw [hg]; exact (below_size (qB)) : w.heap.size ≤ gb673)); have n5_ := Aside0.mk ((by rw [hg]; exact Nat.ne_of_lt (blk_lt (g := gb672) (o := .cells #[.int .i64 a0_0, .slice A0_1 l0_1.length c0_1, .slice A0_2 l0_2.length c0_2] 30 (0, 0)) (qK BK672.out)) : gb672 ≠ gb673)); have n6_ := Aside0.mk ((by rw [hg]; exact Nat.ne_of_gt (blk_lt (g := gb672) (o := .cells #[.int .i64 a0_0, .slice A0_1 l0_1.length c0_1, .slice A0_2 l0_2.length c0_2] 30 (0, 0)) (qK BK672.out)) : gb673 ≠ gb672)); clear BK672; clear HB; have BK672 := n0_; have HB := n1_; have BK673 := n2_; have GW673 := n3_; have GE673 := n4_; have NB672_673 := n5_; have NB673_672 := n6_; clear n0_ n1_ n2_ n3_ n4_ n5_ n6_; clear hb hbox hg))
  have n0_ := Aside0.mk (blk_drew BK672.out)
  have n1_ := Aside0.mk (blk_drew BK673.out)
  have n2_ := Aside0.mk (below_drew1 HB.out)
  clear BK672
  clear BK673
  clear HB
  have BK672 := n0_
  have BK673 := n1_
  have HB := n2_
  clear n0_ n1_ n2_
  refine start_ (n := 11) (S := fun w' => w'.cell? ⟨gb672, 0, none⟩ = some (.int .i64 a0_0) ∧ w'.cell? ⟨gb672, 1, none⟩ = some (.slice A0_1 l0_1.length c0_1) ∧ w'.cell? ⟨gb672, 2, none⟩ = some (.slice A0_2 l0_2.length c0_2)) (ds := []) #[false, false, false, false, false, false, false, false, false, false, false] (by kernel_rfl) rfl rfl ⟨(blk_cell BK672.out 0).trans rfl, (blk_cell BK672.out 1).trans rfl, (blk_cell BK672.out 2).trans rfl⟩ (fun hHeld => ?_); refine with_tabW spec_l4Own.tab1 spec_l4Own.bits1 (fun HT_ HW_ => ?_)
  generalize w5.drew = w6 at BK672 BK673 HB hHeld ⊢
  refine pure_ (i := 0) (N := some 3) (v := ?_) (a' := ?_) #[true, false, false, false, false, false, false, false, false, false, false] rfl rfl (any_of HT_.out (by kernel_rfl)) (fun _ _ _ h => h) (Or.inl ⟨by rfl, ?_⟩) ?_ ?_
  rotate_left
  ·intro w'
   go_simp
   with_reducible rfl
  rotate_left
  ·simp only [Act.put, List.setIfInBounds_toArray, List.set_cons_zero, List.set_cons_succ, i64_w, i32_w]
   rfl
  refine pure_ (i := 3) (N := some 6) (v := ?_) (a' := ?_) #[true, false, false, true, false, false, false, false, false, false, false] rfl rfl (any_of HT_.out (by kernel_rfl)) (fun _ _ _ h => h) (Or.inl ⟨by rfl, ?_⟩) ?_ ?_
  rotate_left
  ·intro w'
   go_simp
   with_reducible rfl
  rotate_left
  ·simp only [Act.put, List.setIfInBounds_toArray, List.set_cons_zero, List.set_cons_succ, i64_w, i32_w]
   rfl
  refine pure_ (i := 6) (N := some 9) (v := ?_) (a' := ?_) #[true, false, false, true, false, false, true, false, false, false, false] rfl rfl (any_of HT_.out (by kernel_rfl)) (fun _ _ _ h => h) (Or.inl ⟨by rfl, ?_⟩) ?_ ?_
  rotate_left
  ·intro w'
   go_simp
   with_reducible rfl
  rotate_left
  ·simp only [Act.put, List.setIfInBounds_toArray, List.set_cons_zero, List.set_cons_succ, i64_w, i32_w]
   rfl
  refine take_ (i := 1) (N := some 4) (v := ?_) (a' := ?_) #[true, true, false, true, false, false, true, false, false, false, false] rfl rfl (take_ofW HT_.out HW_.out (by kernel_rfl)) (fun _ _ _ h => h) (Or.inl ⟨by rfl, ?_⟩) hHeld ?_ ?_
  rotate_left
  ·rintro w' ⟨s0, s1, s2⟩
   go_simp
   with_reducible rfl
  rotate_left
  ·simp only [Act.put, List.setIfInBounds_toArray, List.set_cons_zero, List.set_cons_succ, i64_w, i32_w]
   rfl
  refine take_ (i := 4) (N := some 7) (v := ?_) (a' := ?_) #[true, true, false, true, true, false, true, false, false, false, false] rfl rfl (take_ofW HT_.out HW_.out (by kernel_rfl)) (fun _ _ _ h => h) (Or.inl ⟨by rfl, ?_⟩) hHeld ?_ ?_
  rotate_left
  ·rintro w' ⟨s0, s1, s2⟩
   go_simp
   with_reducible rfl
  rotate_left
  ·simp only [Act.put, List.setIfInBounds_toArray, List.set_cons_zero, List.set_cons_succ, i64_w, i32_w]
   rfl
  refine take_ (i := 7) (N := some 10) (v := ?_) (a' := ?_) #[true, true, false, true, true, false, true, true, false, false, false] rfl rfl (take_ofW HT_.out HW_.out (by kernel_rfl)) (fun _ _ _ h => h) (Or.inl ⟨by rfl, ?_⟩) hHeld ?_ ?_
  rotate_left
  ·rintro w' ⟨s0, s1, s2⟩
   go_simp
   with_reducible rfl
  rotate_left
  ·simp only [Act.put, List.setIfInBounds_toArray, List.set_cons_zero, List.set_cons_succ, i64_w, i32_w]
   rfl
  refine one_ (i := 2) (N := some 5) #[true, true, true, true, true, false, true, true, false, false, false] rfl rfl (one_of HT_.out (by kernel_rfl)) (by decide) (fun K hK => ?_)
  refine Kd.R_lit_step k59 _ 59 ?hg (N := 5) ?hd (xs := ([] : List (S59))) (inner := []) (ok := fun _ => True) (okp := fun _ => True) ?hr ?hp (fun _ hk => hk) trivial (Below.refl _ _) (Nat.le_refl _) (by simp) ?_; (case hd => rfl); (case hg => rfl); (case hr => first | (go_simp; done) | (go_simp; rfl)); (case hp => exact (Reps.none _ _))
  intro v675 w7 ho8 hb hg_ hnew_
  clear hg_ hnew_
  (first | rw [← Ny674.out] at ho8 | (simp only [Int.reduceToNat] at ho8; rw [← Ny674.out] at ho8))
  have n0_ := Aside0.mk (Kd.R_lower ho8 (below_size (qB)))
  have n1_ := Aside0.mk (blk_below (g := gb672) (o := .cells #[.int .i64 a0_0, .slice A0_1 l0_1.length c0_1, .slice A0_2 l0_2.length c0_2] 30 (0, 0)) (qK BK672.out) hb)
  have n2_ := Aside0.mk (blk_below (g := gb673) (o := .cells #[.int .i64 0, .slice none 0 0, .slice none 0 0] 30 (0, 0)) (qK BK673.out) hb)
  have n3_ := Aside0.mk (below_step (qB) hb)
  clear BK672
  clear BK673
  clear HB
  have HO676 := n0_
  have BK672 := n1_
  have BK673 := n2_
  have HB := n3_
  clear n0_ n1_ n2_ n3_
  clear hb ho8
  refine hK.out _ _ ⟨(blk_cell BK672.out 0).trans rfl, (blk_cell BK672.out 1).trans rfl, (blk_cell BK672.out 2).trans rfl⟩ (fun hHeld => ?_)
  clear hK K
  refine norm_ (a' := ?_) ?_ ?_
  rotate_left
  ·show Act.put _ (some 5) _ = _
   simp only [Act.put, List.setIfInBounds_toArray, List.set_cons_zero, List.set_cons_succ, i64_w, i32_w]
   rfl
  refine one_ (i := 5) (N := some 8) #[true, true, true, true, true, true, true, true, false, false, false] rfl rfl (one_of HT_.out (by kernel_rfl)) (by decide) (fun K hK => ?_)
  refine Kd.R_append_rows_step k59 (w0 := w) w.heap.size (by rfl) (.tmp 5) (.tmp 7) 28 59 (.agg #[(.int .i64 0), (.int .i64 0), (.int .i64 0)]) 24 rfl Try.underlying28 info59 rfl (by decide) (by omega) v675 y674 l0_1 _ _ _ (fun _ => True) (fun _ => False) rfl rfl ?aO ?aR (fun _ _ h => h) (fun _ h => h.elim) ?aF ?aB ?aS ?aL ?_
  (case aR => exact qC (Kd.C_below HR0_1.out HB.out))
  (case aB => exact (qB))
  (case aF => exact (fun _ _ => trivial))
  (case aO => exact (qR HO676.out))
  (case aS => exact (below_size (qB)))
  (case aL => have := LMc2.out; omega)
  intro v678 w9 ho hb hg hat
  rw [← Ny677.out] at ho
  have n0_ := Aside0.mk (blk_grown (g := gb672) (o := .cells #[.int .i64 a0_0, .slice A0_1 l0_1.length c0_1, .slice A0_2 l0_2.length c0_2] 30 (0, 0)) (qK BK672.out) hg (Kd.R_ne HO676.out BK672.out (by decide)))
  have n1_ := Aside0.mk (blk_grown (g := gb673) (o := .cells #[.int .i64 0, .slice none 0 0, .slice none 0 0] 30 (0, 0)) (qK BK673.out) hg (Kd.R_ne HO676.out BK673.out (by decide)))
  have n2_ := Aside0.mk (hb)
  have n3_ := Aside0.mk (ho)
  clear BK672
  clear BK673
  clear HB
  clear HO676
  have BK672 := n0_
  have BK673 := n1_
  have HB := n2_
  have HO679 := n3_
  clear n0_ n1_ n2_ n3_
  clear ho hb hg hat
  refine hK.out _ _ ⟨(blk_cell BK672.out 0).trans rfl, (blk_cell BK672.out 1).trans rfl, (blk_cell BK672.out 2).trans rfl⟩ (fun hHeld => ?_)
  clear hK K
  refine norm_ (a' := ?_) ?_ ?_
  rotate_left
  ·show Act.put _ (some 8) _ = _
   simp only [Act.put, List.setIfInBounds_toArray, List.set_cons_zero, List.set_cons_succ, i64_w, i32_w]
   rfl
  refine one_ (i := 8) (N := some 11) #[true, true, true, true, true, true, true, true, true, false, false] rfl rfl (one_of HT_.out (by kernel_rfl)) (by decide) (fun K hK => ?_)
  refine goes_ Try.func79 (by kernel_rfl) rfl #[.slice A0_2 l0_2.length c0_2] (by rfl) rfl rfl qG ?_
  with_reducible refine (spec_l1Own.calls _ _ l0_2 t680 _ ?side1 ?side2 A3.out).mono ?_
  (case side1 => exact qC (Kd.C_below HR0_2.out HB.out))
  (case side2 => exact HC0_2.out)
  rintro e w10 ⟨v681, rfl, ho0, hb⟩
  refine ⟨_, rfl, ?_⟩
  have n0_ := Aside0.mk (Kd.R_below (qR HO679.out) hb)
  have n1_ := Aside0.mk (Kd.R_lower ho0 (below_size (qB)))
  have n2_ := Aside0.mk (blk_below (g := gb672) (o := .cells #[.int .i64 a0_0, .slice A0_1 l0_1.length c0_1, .slice A0_2 l0_2.length c0_2] 30 (0, 0)) (qK BK672.out) hb)
  have n3_ := Aside0.mk (blk_below (g := gb673) (o := .cells #[.int .i64 0, .slice none 0 0, .slice none 0 0] 30 (0, 0)) (qK BK673.out) hb)
  have n4_ := Aside0.mk (below_step (qB) hb)
  clear HO679
  clear BK672
  clear BK673
  clear HB
  have HO679 := n0_
  have HO682 := n1_
  have BK672 := n2_
  have BK673 := n3_
  have HB := n4_
  clear n0_ n1_ n2_ n3_ n4_
  (try clear hb)
  (try clear hb2)
  (try clear hk)
  (try clear hi)
  (try clear ho0)
  obtain ⟨Ao11, co11, eo11⟩ := Kd.R_slice HO682.out
  (first | subst eo11 | (injection eo11 with f1_ f2_ f3_; have f4_ := f1_.symm; have f5_ := f3_.symm; clear f1_ f2_ f3_; subst f4_; subst f5_))
  obtain ⟨Ao12, co12, eo12⟩ := Kd.R_slice HO679.out
  (first | subst eo12 | (injection eo12 with f1_ f2_ f3_; have f4_ := f1_.symm; have f5_ := f3_.symm; clear f1_ f2_ f3_; subst f4_; subst f5_))
  refine hK.out _ _ ⟨(blk_cell BK672.out 0).trans rfl, (blk_cell BK672.out 1).trans rfl, (blk_cell BK672.out 2).trans rfl⟩ (fun hHeld => ?_)
  clear hK K
  refine norm_ (a' := ?_) ?_ ?_
  rotate_left
  ·show Act.put _ (some 11) _ = _
   simp only [Act.put, List.setIfInBounds_toArray, List.set_cons_zero, List.set_cons_succ, i64_w, i32_w]
   rfl
  refine pure_ (i := 9) (N := some 12) (v := ?_) (a' := ?_) #[true, true, true, true, true, true, true, true, true, true, false] rfl rfl (any_of HT_.out (by kernel_rfl)) (fun _ _ _ h => h) (Or.inl ⟨by rfl, ?_⟩) ?_ ?_
  rotate_left
  ·intro w'
   go_simp
   with_reducible rfl
  rotate_left
  ·simp only [Act.put, List.setIfInBounds_toArray, List.set_cons_zero, List.set_cons_succ, i64_w, i32_w]
   rfl
  refine one_ (i := 10) (N := none) #[true, true, true, true, true, true, true, true, true, true, true] rfl rfl (one_of HT_.out (by kernel_rfl)) (by decide) (fun K hK => ?_)
  have hs13 : w10.cell? ⟨gb673, 0, none⟩ = some (.int .i64 0) := (blk_cell BK673.out 0).trans rfl
  have hfs13 := blk_frozen BK673.out 0
  have hns13_0 := NB672_673.out
  have hms13_0 := NB673_672.out
  have hs14 : w10.cell? ⟨gb673, 1, none⟩ = some (.slice none 0 0) := (blk_cell BK673.out 1).trans rfl
  have hfs14 := blk_frozen BK673.out 1
  have hns14_0 := NB672_673.out
  have hms14_0 := NB673_672.out
  have hs15 : w10.cell? ⟨gb673, 2, none⟩ = some (.slice none 0 0) := (blk_cell BK673.out 2).trans rfl
  have hfs15 := blk_frozen BK673.out 2
  have hns15_0 := NB672_673.out
  have hms15_0 := NB673_672.out
  refine skip_ (w1 := ?_) (by rfl) rfl ?_ ?_
  rotate_left
  ·go_simp
   rfl
  refine hK.out _ _ ⟨((cell_far (p := ⟨gb673, _, none⟩) NB672_673.out _).trans (((cell_far (p := ⟨gb673, _, none⟩) NB672_673.out _).trans (((cell_far (p := ⟨gb673, _, none⟩) NB672_673.out _).trans (hHeld.1)))))), ((cell_far (p := ⟨gb673, _, none⟩) NB672_673.out _).trans (((cell_far (p := ⟨gb673, _, none⟩) NB672_673.out _).trans (((cell_far (p := ⟨gb673, _, none⟩) NB672_673.out _).trans (hHeld.2.1)))))), ((cell_far (p := ⟨gb673, _, none⟩) NB672_673.out _).trans (((cell_far (p := ⟨gb673, _, none⟩) NB672_673.out _).trans (((cell_far (p := ⟨gb673, _, none⟩) NB672_673.out _).trans (hHeld.2.2))))))⟩ (fun hHeld => ?_)
  clear hK K
  refine done_ (done_of HT_.out (by kernel_rfl)) ?_
  try go_wp2
  refine bodyPost_ret (results_cell_row rfl _ _ gb673 30 #[.int .i64 a0_0, .slice Ao12 y677.length co12, .slice Ao11 t680.length co11] (0, 0) _ rfl (by (with_reducible repeat (first | refine blk_drewN ?_ _ | refine blk_drew ?_ | refine blk_alloc ?_ _)); refine blk_put (cs := #[.int .i64 a0_0, .slice Ao12 y677.length co12, .slice none 0 0]) ?_ 2 _ rfl; refine blk_put (cs := #[.int .i64 a0_0, .slice none 0 0, .slice none 0 0]) ?_ 1 _ rfl; refine blk_put (cs := #[.int .i64 0, .slice none 0 0, .slice none 0 0]) ?_ 0 _ rfl; exact qK BK673.out) Try.underlying30 rfl (by kernel_rfl)) rfl ?_
  exact ⟨_, _, qE, by (with_reducible repeat (first | apply Kd.R_alloc | apply Kd.R_drewN | apply Kd.R_drew)); exact Kd.R_mono (Kd.R_far (p := ⟨gb673, 2, none⟩) (Kd.R_far (p := ⟨gb673, 1, none⟩) (Kd.R_far (p := ⟨gb673, 0, none⟩) (Kd.R_types HO679.out BK673.out (by decide)) (fun _ hk => hk.2) (.int .i64 a0_0)) (fun _ hk => hk.2) (.slice Ao12 y677.length co12)) (fun _ hk => hk.2) (.slice Ao11 t680.length co11)) (fun _ hk => trivial), by (with_reducible repeat (first | apply Kd.R_alloc | apply Kd.R_drewN | apply Kd.R_drew)); exact Kd.R_mono (Kd.R_far (p := ⟨gb673, 2, none⟩) (Kd.R_far (p := ⟨gb673, 1, none⟩) (Kd.R_far (p := ⟨gb673, 0, none⟩) (Kd.R_types HO682.out BK673.out (by decide)) (fun _ hk => hk.2) (.int .i64 a0_0)) (fun _ hk => hk.2) (.slice Ao12 y677.length co12)) (fun _ hk => hk.2) (.slice Ao11 t680.length co11)) (fun _ hk => trivial), qB⟩
 ·rw [if_neg c2] at H
  exact absurd H (by simp)


-- HAND
/-! ### bd_shared.lean -/
-- IMPORT Derived.StillTailTactics
/-- What the calls of a circuit that grows leave: all but the circuit's own cells (G) and rows of gates that lie at base or behind it. -/
structure Fr (tG G base : Nat) (w w' : World) : Prop where
 os : w'.os = w.os
 tape : w'.tape = w.tape
 output : w'.output = w.output
 size : w.heap.size ≤ w'.heap.size
 block : ∀ k, k < w.heap.size → k ≠ G → (base ≤ k → ∀ c, w.heap[k]? ≠ some (.cells c tG (0, 0))) → w'.heap[k]? = w.heap[k]?
section
variable {tC tG tI G base B : Nat} {w w1 w2 w' W : World}
theorem Fr.refl (tG G base : Nat) (w : World) : Fr tG G base w w := ⟨rfl, rfl, rfl, Nat.le_refl _, fun _ _ _ _ => rfl⟩
theorem Fr.trans (h : Fr tG G base w w1) (h2 : Fr tG G base w1 w2) : Fr tG G base w w2 :=
 ⟨h2.os.trans h.os, h2.tape.trans h.tape, h2.output.trans h.output, Nat.le_trans h.size h2.size, fun k hk hG ht => by
  have e := h.block k hk hG ht
  exact (h2.block k (Nat.lt_of_lt_of_le hk h.size) hG (fun hb c => by rw [e]; exact ht hb c)).trans e⟩
theorem Fr.of_below (h : Below w.heap.size w w1) : Fr tG G base w w1 := ⟨h.os, h.tape, h.output, h.size, fun k hk _ _ => h.block k hk⟩
theorem Fr.step_below (h : Fr tG G base w w1) (h2 : Below w1.heap.size w1 w2) : Fr tG G base w w2 := h.trans (Fr.of_below h2)
theorem Fr.alloc (h : Fr tG G base w w1) (o : Obj) : Fr tG G base w (w1.alloc o) := h.step_below (below_alloc (Below.refl _ _) o)
theorem Fr.drewN (h : Fr tG G base w w1) (n : Nat) : Fr tG G base w (w1.drewN n) := h.step_below (pw_below_drewN (Below.refl _ _) n)
theorem Fr.drew (h : Fr tG G base w w1) : Fr tG G base w w1.drew := h.step_below (below_drew (Below.refl _ _))
theorem Fr.below (h : Fr tG G base w w1) (hG : B ≤ G) (hb : B ≤ base) (hB : B ≤ w.heap.size) : Below B w w1 :=
 ⟨h.os, h.tape, h.output, h.size, fun k hk => h.block k (by omega) (by omega) (fun h2 => absurd h2 (by omega))⟩
/-- An append to a row of gates of one's own. -/
theorem Fr.grown_own {row : Option Nat} (hg : W.grownBy w1 row) (hr : ∀ k, row = some k → base ≤ k ∧ ∃ c, W.heap[k]? = some (.cells c tG (0, 0))) : Fr tG G base W w1 :=
 ⟨hg.os, hg.tape, hg.output, hg.size, fun k hk _ ht => hg.block k hk (fun he => by
  obtain ⟨hb, c, hc⟩ := hr k he.symm
  exact ht hb c hc)⟩
theorem Fr.setG (h : Fr tG G base w W) (j : Nat) (v : Value) : Fr tG G base w (W.setCell ⟨G, j, none⟩ v) :=
 h.trans ⟨rfl, rfl, rfl, by simp [World.setCell], fun k _ hG _ => Below.heap_setCell W ⟨G, j, none⟩ v k hG⟩
theorem Fr.blk (h : Fr tG G base w w1) {k : Nat} {c : Array Value} {t : Nat} (hk : w.heap[k]? = some (.cells c t (0, 0))) (hG : k ≠ G) (ht : t ≠ tG) : w1.heap[k]? = some (.cells c t (0, 0)) :=
 (h.block k (blk_lt hk) hG (fun _ c' h' => by
  rw [hk] at h'
  injection h' with h'
  injection h' with _ h'
  exact ht h')).trans hk
section
variable {α : Type} {d : Kd α} {e e' b n c : Nat} {ok : Nat → Prop} {v u : Value} {A : Option Addr} {xs : List α}
/-- A row of other elements than gates stays. -/
theorem Fr.R (h : Fr tG G base w w1) (ho : d.R e w b ok v xs) (ht : ∀ q, q ∈ e :: d.E → q ≠ tG) (hG : ∀ k, ok k → k ≠ G) : d.R e w1 b ok v xs := by
 refine Kd.R_mono (Kd.R_move (Kd.R_bound ho) (fun k hk => ?_)) (fun _ hk => hk.1)
 obtain ⟨hok, _, hlt, q, hq, cells, hc⟩ := hk
 exact h.block k hlt (hG k hok) (fun _ c' h' => by
  rw [hc] at h'
  injection h' with h'
  injection h' with _ h'
  exact ht q hq h')
/-- What came in stays. -/
theorem Fr.C_came (hd : Kd.Heap d) {w0 : World} (h : d.C w0 A n xs) (hb : Below w0.heap.size w0 w) (hG : w0.heap.size ≤ G) (hB : w0.heap.size ≤ base) : ∀ W', Fr tG G base w W' → d.C W' A n xs := fun W' hk =>
 hd.C (fun k hlt => (hk.block k (Nat.lt_of_lt_of_le hlt hb.size) (by omega) (fun h2 => absurd h2 (by omega))).trans (hb.block k hlt)) h
end
end
/-- A circuit that grows: its cells lie at G, its gates are the call's own. -/
def Bd (tC G base : Nat) (ins : Int) (ov : Value) (w : World) (g : List S59) : Prop :=
 ∃ gv, w.heap[G]? = some (.cells #[.int .i64 ins, gv, ov] tC (0, 0)) ∧ Kd.R k59 59 w base (fun _ => True) gv g
section
variable {tC t G base : Nat} {ins : Int} {ov : Value} {w w1 W : World} {g : List S59}
theorem Bd.below (h : Bd tC G base ins ov w g) (hb : Below w.heap.size w w1) : Bd tC G base ins ov w1 g := by
 obtain ⟨gv, hG, hR⟩ := h
 exact ⟨gv, (hb.block _ (blk_lt hG)).trans hG, Kd.R_below hR hb⟩
theorem Bd.alloc (h : Bd tC G base ins ov w g) (o : Obj) : Bd tC G base ins ov (w.alloc o) g := h.below (below_alloc (Below.refl _ _) o)
theorem Bd.drewN (h : Bd tC G base ins ov w g) (n : Nat) : Bd tC G base ins ov (w.drewN n) g := h.below (pw_below_drewN (Below.refl _ _) n)
theorem Bd.drew (h : Bd tC G base ins ov w g) : Bd tC G base ins ov w.drew g := h.below (below_drew (Below.refl _ _))
theorem Bd.gates_other (h : Kd.R k59 59 w base (fun _ => True) ov g) (hm : ∀ k c, k < w.heap.size → w.heap[k]? = some (.cells c 59 (0, 0)) → w1.heap[k]? = w.heap[k]?) : Kd.R k59 59 w1 base (fun _ => True) ov g := by
 refine Kd.R_mono (Kd.R_move (Kd.R_bound h) (fun k hk => ?_)) (fun _ _ => trivial)
 obtain ⟨_, _, hlt, q, hq, cells, hc⟩ := hk
 have hq' : q = 59 := by
  rcases List.mem_cons.mp hq with rfl | hq
  ·rfl
  ·exact absurd hq (by simp [k59, Kd.iso, Kd.pair, Kd.int, Kd.scalar])
 subst hq'
 exact hm k cells hlt hc
/-- Behind an append to a row of other elements. -/
theorem Bd.grown (h : Bd tC G base ins ov W g) {row : Option Nat} (hg : W.grownBy w1 row) (hr : ∀ k, row = some k → ∃ c, W.heap[k]? = some (.cells c t (0, 0))) (hC : t ≠ tC) (ht : t ≠ 59) : Bd tC G base ins ov w1 g := by
 obtain ⟨gv, hG, hR⟩ := h
 refine ⟨gv, (hg.block _ (blk_lt hG) (fun he => ?_)).trans hG, Bd.gates_other hR (fun k c hk hc => hg.block k hk (fun he => ?_))⟩
 ·obtain ⟨c, hc⟩ := hr _ he.symm
  rw [hG] at hc
  injection hc with hc
  injection hc with _ hc
  exact hC hc.symm
 ·obtain ⟨c', hc'⟩ := hr _ he.symm
  rw [hc] at hc'
  injection hc' with hc'
  injection hc' with _ hc'
  exact ht hc'.symm
/-- Behind a store into a row of other elements. -/
theorem Bd.set (h : Bd tC G base ins ov W g) {a j : Nat} {c : Array Value} (ha : W.heap[a]? = some (.cells c t (0, 0))) (u : Value) (hC : t ≠ tC) (ht : t ≠ 59) : Bd tC G base ins ov (W.setCell ⟨a, j, none⟩ u) g := by
 obtain ⟨gv, hG, hR⟩ := h
 have hne : ∀ k c' t', W.heap[k]? = some (.cells c' t' (0, 0)) → t ≠ t' → k ≠ a := by
  rintro k c' t' hk hn rfl
  rw [ha] at hk
  injection hk with hk
  injection hk with _ hk
  exact hn hk
 exact ⟨gv, (Below.heap_setCell W ⟨a, j, none⟩ u G (hne _ _ _ hG hC)).trans hG, Bd.gates_other hR (fun k c' _ hc => Below.heap_setCell W ⟨a, j, none⟩ u k (hne _ _ _ hc ht))⟩
end
theorem info_gate : (Try.prog.info? 59).map (fun i => (i.zero, i.size, i.bytes)) = some (some (.agg #[(.int .i64 0), (.int .i64 0), (.int .i64 0)]), 3, 24) := by kernel_rfl
theorem Fr.cellAt {tG G base n kk : Nat} {w W : World} {ad : Addr} {a : List Int} {x : Int} (hf : Fr tG G base w W) (h : ∀ W', Fr tG G base w W' → Kd.C (Kd.int .i64) W' (some ad) n a) (hk : kk < n) (hx : rd a kk = x) : W.cell? (ad.add kk) = some (.int .i64 x) := by
 obtain ⟨ad', e, hc⟩ := Kd.at_int (h W hf) (kk : Int) (by omega) (by omega)
 cases e
 rwa [hx, Int.toNat_natCast] at hc
theorem R_till {α : Type} {d : Kd α} {e b : Nat} {ok : Nat → Prop} {W : World} {v : Value} {xs : List α} (h : d.R e W b ok v xs) : d.R e W b (fun k => ok k ∧ k < W.heap.size) v xs := Kd.R_mono (Kd.R_bound h) (fun _ hk => ⟨hk.1, hk.2.2.1⟩)
/-- A comparison for equality. -/
def eqN (ins : Int) (a b : List Int) (g : List S59) : Nat → List S59 × Int
 | 0 => (g ++ [⟨1, 1, 0⟩], ins + (g.length : Int))
 | n + 1 =>
  let s := eqN ins a b g n
  let d := ins + (s.1.length : Int)
  (s.1 ++ [⟨5, rd a n, rd b n⟩] ++ [⟨2, d, 0⟩] ++ [⟨3, d + 1, s.2⟩], d + 2)
theorem eqN_len (ins : Int) (a b : List Int) (g : List S59) : ∀ n, (eqN ins a b g n).1.length = g.length + 1 + 3 * n
 | 0 => by simp [eqN]
 | n + 1 => by
  have h := eqN_len ins a b g n
  simp only [eqN, List.length_append, List.length_singleton]
  omega

-- HAND
/-! ### spec_l4Build_gate: function 80 -/
-- IMPORT Derived.StillTailTactics
set_option maxHeartbeats 8000000 in
set_option maxRecDepth 100000 in
/-- A gate that is put: its wire, and the circuit behind it. -/
theorem spec_l4Build_gate.calls (G base : Nat) (ins : Int) (ov : Value) (g g' : List S59) (a1 a2 a3 n : Int) (w : World) (hb : base ≤ w.heap.size) (HBD : Bd 75 G base ins ov w g)
  (hi0 : 0 ≤ ins) (hi1 : ins ≤ 1000000) (hl : g.length ≤ 1000000) (hn : n = ins + (g.length : Int)) (hg' : g' = g ++ [⟨a1, a2, a3⟩]) :
  Calls Try.prog 80 #[.pointer (some ⟨G, 0, none⟩), .int .i64 a1, .int .i64 a2, .int .i64 a3] w fun e w' => e = .returned (.int .i64 n) ∧ Bd 75 G base ins ov w' g' ∧ Fr 59 G base w w' := by
 obtain ⟨gv, hG, hR⟩ := HBD
 have hGlt := blk_lt hG
 obtain ⟨A0, c0, rfl⟩ := Kd.R_slice hR
 have hne := Kd.R_ne hR hG (by decide)
 have hty := Kd.R_typed hR
 have hbs := Kd.R_base hR
 have hlt := Kd.R_lt hR
 have hc0 : w.cell? ⟨G, 0, none⟩ = some (.int .i64 ins) := (blk_cell hG 0).trans rfl
 have hc1 : w.cell? ⟨G, 1, none⟩ = some (.slice A0 g.length c0) := (blk_cell hG 1).trans rfl
 have hc2 : w.cell? ⟨G, 2, none⟩ = some ov := (blk_cell hG 2).trans rfl
 have HR := Aside0.mk hR
 have HG := Aside0.mk hG
 have HNE := Aside0.mk hne
 have HTY := Aside0.mk hty
 have HBS := Aside0.mk hbs
 have HN := Aside0.mk hn
 have HG' := Aside0.mk hg'
 clear hR hG hne hty hbs hlt hn hg'
 have hu1 := Try.underlying28
 have hu2 := Try.underlying59
 have hu3 := Try.underlying30
 have hu4 := Try.underlying75
 go_enter Try.func80, Try.ntmps80
 go_wp2_with (first
  | ((with_reducible refine gate_builtin (b := .append) (xs := #[.tmp 14, .tmp 19]) rfl ?_); at_builtin; refine Kd.R_append k59 (w0 := w) base rfl (.tmp 14) (.tmp 19) 28 59 (.agg #[.int .i64 0, .int .i64 0, .int .i64 0]) 24 rfl Try.underlying28 info_gate rfl (by decide) (by omega) _ g ⟨a1, a2, a3⟩ [.int .i64 a1, .int .i64 a2, .int .i64 a3] (fun _ => True) (fun _ => False) rfl (by first | (go_simp; done) | (go_simp; rfl)) ?aP (fun _ hk => hk.elim) ?aF ?aO ?aB ?aS ?aL ?_; (case aP => exact k59_mkM _ _ _ ⟨a1, a2, a3⟩); (case aF => exact fun _ _ => trivial); (case aO => (with_reducible repeat (first | apply Kd.R_alloc | apply Kd.R_drewN | apply Kd.R_drew)); exact HR.out); (case aB => repeat (first | (with_reducible first | exact Below.refl _ _ | apply below_alloc | apply pw_below_drewN | apply below_drew1))); (case aS => first | omega | (simp; omega)); (case aL => first | omega | (simp; omega)); intro v3 w3 hv hb3 hg_ ha_; obtain ⟨A3, c3, rfl⟩ := Kd.R_slice hv; have hG3 := (hg_.block G hGlt HNE.out).trans HG.out; have hd0 : w3.cell? ⟨G, 0, none⟩ = some (.int .i64 ins) := (blk_cell hG3 0).trans rfl; have hd1 : w3.cell? ⟨G, 1, none⟩ = some (.slice A0 g.length c0) := (blk_cell hG3 1).trans rfl; have hd2 : w3.cell? ⟨G, 2, none⟩ = some ov := (blk_cell hG3 2).trans rfl; have hd3 : w3.frozen? ⟨G, 1, none⟩ = false := blk_frozen hG3 1; have HV3 := Aside0.mk hv; have HG3 := Aside0.mk hG3; have HF3 := Aside0.mk (Fr.grown_own (tG := 59) (G := G) (base := base) hg_ (fun k e_ => ⟨HBS.out k e_, HTY.out k e_⟩)); clear hv hb3 hg_ ha_ hG3 hc0 hc1 hc2)
  | (go_at_call 45; go_in))
 go_ret
 refine ⟨congrArg (fun z => Ending.returned (.int .i64 z)) (by have := HN.out; omega), ?_, ?_⟩
 ·rw [HG'.out]
  refine ⟨.slice A3 (g.length + 1) c3, blk_alloc (by simpa using blk_set HG3.out 1 (.slice A3 (g.length + 1) c3)) _, ?_⟩
  have h5 := HV3.out
  rw [List.length_append, List.length_singleton] at h5
  exact Kd.R_alloc (Kd.R_set h5 HG3.out (by decide) 1 _) _
 ·exact (HF3.out.trans (Fr.setG (Fr.refl _ _ _ _) 1 _)).alloc _

end Go.Proofs.Ytimkjhdopncimaa.X
