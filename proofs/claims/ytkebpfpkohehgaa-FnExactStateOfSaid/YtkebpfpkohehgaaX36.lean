/- Go functions as Lean functions, each with the proof that its call comes to just its answer. Conditions: the arguments are of their kinds. -/
import Derived.Test.YtkebpfpkohehgaaX0
import Derived.Test.YtkebpfpkohehgaaX10
import Derived.Test.YtkebpfpkohehgaaX35
namespace Go.Proofs.Ytkebpfpkohehgaa.X
open Go.RowKit Go.Proofs.YtkebpfpkohehgaaW.PrintWords Go.Proofs.YtkebpfpkohehgaaW.PrintLast Go.Proofs.YtkebpfpkohehgaaW.PrintMore
attribute [local go_sem] max2_int min2_int max_two min_two max_three min_three max_four min_four   -- for this text's walks alone
set_option linter.unusedVariables false
set_option linter.unusedSimpArgs false

/-! ### impl_Program_stateOf: function 47 -/
def impl_Program_stateOf.l0 : Nat → Int → List Int → Int → Int → Int → Int → List (S82) → List (S54) → Option (List Int)
 | 0, _, _, _, _, _, _, _, _ => none
 | k + 1, x1, x5, x9, x10, x435000, x435001, x435002, x435003 => if x10 < x9 then (if 0 ≤ (wrap64 (x435000 * x10)) then ((impl_mask.f x435000).bind fun t438 => (if x5.length < 17592186044416 then (impl_Program_stateOf.l0 k x1 (x5 ++ [Go.bits .and .u64 (shr .u64 (IntKind.u64.wrap (x1)) (wrap64 (x435000 * x10))) t438]) x9 (wrap64 (x10 + 1)) x435000 x435001 x435002 x435003) else (none))) else (none)) else (some x5)
def impl_Program_stateOf.f (k : Nat) (a0_0 : Int) (a0_1 : Int) (l0_2 : List (S82)) (l0_3 : List (S54)) (a1 : Int) : Option (List Int) := impl_Program_stateOf.l0 k a1 (([] : List Int)) a0_1 0 a0_0 a0_1 l0_2 l0_3
theorem impl_Program_stateOf.mono_l : ∀ k, (∀ y0 y1 y2 y3 y4 y5 y6 y7, LeO (impl_Program_stateOf.l0 k y0 y1 y2 y3 y4 y5 y6 y7) (impl_Program_stateOf.l0 (k + 1) y0 y1 y2 y3 y4 y5 y6 y7))
 | 0 => fun _ _ _ _ _ _ _ _ r h => by simp [impl_Program_stateOf.l0] at h
 | k + 1 => by
  have ih0 := impl_Program_stateOf.mono_l k
  ·intro y0 y1 y2 y3 y4 y5 y6 y7
   unfold impl_Program_stateOf.l0
   repeat' first
   | (with_reducible exact ih0 _ _ _ _ _ _ _ _)
   | (with_reducible first | exact LeO.refl _ | exact LeO.none _ | refine LeO.ite ?_ ?_ | refine LeO.bind ?_ (fun _ => ?_))
   | exact ih0 _ _ _ _ _ _ _ _
   | exact LeO.none _ | refine LeO.ite ?_ ?_ | refine LeO.bind ?_ (fun _ => ?_)
theorem impl_Program_stateOf.mono : ∀ a0 a1 a2 a3 a4 k, LeO (impl_Program_stateOf.f k a0 a1 a2 a3 a4) (impl_Program_stateOf.f (k + 1) a0 a1 a2 a3 a4) := by
 intro a0 a1 a2 a3 a4 k
 have ih0 := impl_Program_stateOf.mono_l k
 unfold impl_Program_stateOf.f
 repeat' first
   | (with_reducible exact ih0 _ _ _ _ _ _ _ _)
   | (with_reducible first | exact LeO.refl _ | exact LeO.none _ | refine LeO.ite ?_ ?_ | refine LeO.bind ?_ (fun _ => ?_))
   | exact ih0 _ _ _ _ _ _ _ _
   | exact LeO.none _ | refine LeO.ite ?_ ?_ | refine LeO.bind ?_ (fun _ => ?_)
def impl_Program_stateOf.T5 : Bool × List (List Nat × List Nat) := (true, [([], []), ([], []), ([1], [1]), ([], []), ([3], [3]), ([], []), ([4, 5], [4, 5]), ([2, 6], [2, 6]), ([], []), ([8], [8]), ([9], [9]), ([7, 10], [7, 10]), ([11], [11]), ([0, 12, 10], [0, 12]), ([13, 13, 0, 1, 2, 3, 4, 5, 6, 7, 8, 9, 10, 11, 12, 13], [0, 13])])
def impl_Program_stateOf.B5 : List Nat := [0, 0, 2, 0, 8, 0, 56, 126, 0, 256, 768, 2046, 4094, 8191, 16383]
theorem impl_Program_stateOf.tab5 : rtab .any (opsOf Try.f47 5) = impl_Program_stateOf.T5 := by kernel_rfl
theorem impl_Program_stateOf.bits5 : waitsOk impl_Program_stateOf.T5.2 impl_Program_stateOf.B5 = true := by kernel_rfl
set_option maxHeartbeats 8000000 in
set_option maxRecDepth 100000 in
theorem impl_Program_stateOf.calls (k : Nat) (a0_0 : Int) (a0_1 : Int) (A0_2 : Option Addr) (c0_2 : Nat) (l0_2 : List (S82)) (A0_3 : Option Addr) (c0_3 : Nat) (l0_3 : List (S54)) (a1 : Int) (r : List Int) (w : World) (hr0_2 : Kd.C k82 w A0_2 l0_2.length l0_2) (hc0_2 : l0_2.length ≤ c0_2) (hr0_3 : Kd.C k54 w A0_3 l0_3.length l0_3) (hc0_3 : l0_3.length ≤ c0_3) (h : impl_Program_stateOf.f k a0_0 a0_1 l0_2 l0_3 a1 = some r) :
  Calls Try.prog 47 #[.agg #[.int .i64 a0_0, .int .i64 a0_1, .slice A0_2 l0_2.length c0_2, .slice A0_3 l0_3.length c0_3], .int .i64 a1] w fun e w' => ∃ v0_ : Value, e = .returned (v0_) ∧ Kd.R (Kd.int .u64) 66 w' w.heap.size (fun _ => True) v0_ r ∧ Below w.heap.size w w' := by
 have hu31 := Try.underlying31
 have HR0_2 := Aside0.mk hr0_2
 have HC0_2 := Aside0.mk hc0_2
 clear hr0_2 hc0_2
 have HR0_3 := Aside0.mk hr0_3
 have HC0_3 := Aside0.mk hc0_3
 clear hr0_3 hc0_3
 have HB := Aside0.mk (Below.refl w.heap.size w)
 have H : (impl_Program_stateOf.l0 k a1 (([] : List Int)) a0_1 0 a0_0 a0_1 l0_2 l0_3) = some r := h
 clear h
 obtain ⟨y435, hy435⟩ : ∃ y_ : List Int, y_ = (([] : List Int)) := ⟨_, rfl⟩
 replace H : (impl_Program_stateOf.l0 k a1 y435 a0_1 0 a0_0 a0_1 l0_2 l0_3) = some r := qY hy435 H
 have Ny435 := Aside0.mk hy435
 clear hy435
 have H' := Aside0.mk H
 clear H
 go_enter Try.func47, Try.ntmps47
 go_wp2_with (first | ((with_reducible refine gate_dst (N := 2) rfl ?_); refine box_event ?hg (N := 2) ?hd (cs := #[.int .i64 a0_0, .int .i64 a0_1, .slice A0_2 l0_2.length c0_2, .slice A0_3 l0_3.length c0_3]) (t := 31) ?hr ?_; (case hd => rfl); (case hg => rfl); (case hr => first | (go_simp; done) | (go_simp; rfl)); intro gb434 hg w3 hbox hb; have n0_ := Aside0.mk (below_step (qB) hb); have n1_ := Aside0.mk (hbox); have n2_ := Aside0.mk ((by rw [hg]; exact (below_size (qB)) : w.heap.size ≤ gb434)); have n3_ := Aside0.mk ((by rw [hg]; exact (below_size (qB)) : w.heap.size ≤ gb434)); clear HB; have HB := n0_; have BK434 := n1_; have GW434 := n2_; have GE434 := n3_; clear n0_ n1_ n2_ n3_; clear hb hbox hg) | ((with_reducible refine gate_dst (N := 7) rfl ?_); refine Kd.R_lit (Kd.int .u64) _ 66 ?hg (N := 7) ?hd (xs := ([] : List Int)) (inner := []) (ok := fun _ => True) (okp := fun _ => True) ?hr ?hp (fun _ hk => hk) trivial (Below.refl _ _) (Nat.le_refl _) (by simp) ?_; (case hd => rfl); (case hg => rfl); (case hr => first | (go_simp; done) | (go_simp; rfl)); (case hp => exact (Reps.none _ _)); intro v436 w4 ho5 hb hg_ hnew_; clear hg_ hnew_; (first | rw [← Ny435.out] at ho5 | (simp only [Int.reduceToNat] at ho5; rw [← Ny435.out] at ho5)); have n0_ := Aside0.mk (Kd.R_lower ho5 (below_size (qB))); have n1_ := Aside0.mk (blk_below (g := gb434) (o := .cells #[.int .i64 a0_0, .int .i64 a0_1, .slice A0_2 l0_2.length c0_2, .slice A0_3 l0_3.length c0_3] 31 (0, 0)) (qK BK434.out) hb); have n2_ := Aside0.mk (below_step (qB) hb); clear BK434; clear HB; have HO437 := n0_; have BK434 := n1_; have HB := n2_; clear n0_ n1_ n2_; clear hb ho5; have hcz6_0 : w4.cell? ⟨gb434, 0, none⟩ = some (.int .i64 a0_0) := (blk_cell BK434.out 0).trans rfl; have hcz6_1 : w4.cell? ⟨gb434, 1, none⟩ = some (.int .i64 a0_1) := (blk_cell BK434.out 1).trans rfl; have hcz6_2 : w4.cell? ⟨gb434, 2, none⟩ = some (.slice A0_2 l0_2.length c0_2) := (blk_cell BK434.out 2).trans rfl; have hcz6_3 : w4.cell? ⟨gb434, 3, none⟩ = some (.slice A0_3 l0_3.length c0_3) := (blk_cell BK434.out 3).trans rfl; have hfz6_0 := blk_frozen BK434.out 0; have hfz6_1 := blk_frozen BK434.out 1; have hfz6_2 := blk_frozen BK434.out 2; have hfz6_3 := blk_frozen BK434.out 3))
 go_loopg [5, 10] k (fun kq v5 v10 w' => ∃ (x5_1 : List Int) (x10_1 : Int), v10 = .int .i64 x10_1 ∧ Aside0 (impl_Program_stateOf.l0 kq a1 x5_1 a0_1 x10_1 a0_0 a0_1 l0_2 l0_3 = some r) ∧ Aside0 (kq ≤ k) ∧ Aside0 (Kd.R (Kd.int .u64) 66 w' w.heap.size (fun _ => True) v5 x5_1) ∧ Aside0 (w'.heap[gb434]? = some (.cells #[.int .i64 a0_0, .int .i64 a0_1, (.slice A0_2 l0_2.length c0_2), (.slice A0_3 l0_3.length c0_3)] 31 (0, 0))) ∧ Aside0 (Below w.heap.size w w'))
 case atStart => exact ⟨(y435), (0), qS, H', ⟨Nat.le_refl _⟩, ⟨qR HO437.out⟩, ⟨by exact qK BK434.out⟩, ⟨qB⟩⟩
 case round =>
  clear H'
  try clear p2
  try clear c4
  try clear hcz6_0
  try clear hcz6_1
  try clear hcz6_2
  try clear hcz6_3
  try clear hfz6_0
  try clear hfz6_1
  try clear hfz6_2
  try clear hfz6_3
  obtain ⟨x5_1, x10_1, rfl, HA, HK1, HO_5, BK434, HB⟩ := hrel
  cases gk with
  | zero => exact absurd HA.out (by simp [impl_Program_stateOf.l0])
  | succ k1 =>
   have H := HA.out
   clear HA
   simp only [impl_Program_stateOf.l0] at H
   by_cases c7 : x10_1 < a0_1
   ·rw [if_pos c7] at H
    have c7b0 : decide (x10_1 < a0_1) = true := decide_eq_true c7
    clear c7
    obtain ⟨ji8, hji8⟩ : ∃ j_ : Int, (wrap64 (a0_0 * x10_1)) = j_ := ⟨_, rfl⟩
    replace H : (if 0 ≤ (ji8) then ((impl_mask.f a0_0).bind fun t438 => (if x5_1.length < 17592186044416 then (impl_Program_stateOf.l0 k1 a1 (x5_1 ++ [Go.bits .and .u64 (shr .u64 (IntKind.u64.wrap (a1)) (ji8)) t438]) a0_1 (wrap64 (x10_1 + 1)) a0_0 a0_1 l0_2 l0_3) else (none))) else (none)) = some r := by first | (rw [hji8] at H; exact H) | (simp only [hji8] at H ⊢; exact H)
    have hji8w : (IntKind.i64.wrap (a0_0 * x10_1)) = ji8 := (i64_w _).trans hji8
    by_cases c9 : 0 ≤ (ji8)
    ·rw [if_pos c9] at H
     have c9b0 := eq_true c9
     have c9b1 : decide (0 ≤ (ji8)) = true := decide_eq_true c9
     clear c9
     obtain ⟨ji10, hji10⟩ : ∃ j_ : Int, (shr .u64 (IntKind.u64.wrap (a1)) (ji8)) = j_ := ⟨_, rfl⟩
     replace H : ((impl_mask.f a0_0).bind fun t438 => (if x5_1.length < 17592186044416 then (impl_Program_stateOf.l0 k1 a1 (x5_1 ++ [Go.bits .and .u64 (ji10) t438]) a0_1 (wrap64 (x10_1 + 1)) a0_0 a0_1 l0_2 l0_3) else (none))) = some r := by first | (rw [hji10] at H; exact H) | (simp only [hji10] at H ⊢; exact H)
     have hji10_ : ((IntKind.u64.wrap (a1)) / 2 ^ min (ji8).toNat 64) = ji10 := hji10
     have hji10z : (ji8) ≤ 64 → ((IntKind.u64.wrap (a1)) / 2 ^ (ji8).toNat) = ji10 := shr_small hji10
     replace H := Option.bind_eq_some_iff.mp H
     obtain ⟨t438, A110, H⟩ := H
     replace H : (if x5_1.length < 17592186044416 then (impl_Program_stateOf.l0 k1 a1 (x5_1 ++ [Go.bits .and .u64 (ji10) t438]) a0_1 (wrap64 (x10_1 + 1)) a0_0 a0_1 l0_2 l0_3) else (none)) = some r := H
     have A11 := Aside0.mk A110
     clear A110
     by_cases c12 : x5_1.length < 17592186044416
     ·rw [if_pos c12] at H
      have LMc12 := Aside0.mk c12
      clear c12
      obtain ⟨y439, hy439⟩ : ∃ y_ : List Int, y_ = (x5_1 ++ [Go.bits .and .u64 (ji10) t438]) := ⟨_, rfl⟩
      replace H : (impl_Program_stateOf.l0 k1 a1 y439 a0_1 (wrap64 (x10_1 + 1)) a0_0 a0_1 l0_2 l0_3) = some r := qY hy439 H
      have Ny439 := Aside0.mk hy439
      clear hy439
      have H' := Aside0.mk H
      clear H
      try go_wp2
      have n0_ := Aside0.mk (Kd.R_drew HO_5.out)
      have n1_ := Aside0.mk (blk_drew BK434.out)
      have n2_ := Aside0.mk (below_drew1 HB.out)
      clear HO_5
      clear BK434
      clear HB
      have HO_5 := n0_
      have BK434 := n1_
      have HB := n2_
      clear n0_ n1_ n2_
      refine start_ (n := 15) (S := fun w' => w'.cell? ⟨gb434, 0, none⟩ = some (.int .i64 a0_0) ∧ w'.cell? ⟨gb434, 1, none⟩ = some (.int .i64 a0_1) ∧ w'.cell? ⟨gb434, 2, none⟩ = some (.slice A0_2 l0_2.length c0_2) ∧ w'.cell? ⟨gb434, 3, none⟩ = some (.slice A0_3 l0_3.length c0_3)) (ds := []) #[false, false, false, false, false, false, false, false, false, false, false, false, false, false, false] (by kernel_rfl) rfl rfl ⟨(blk_cell BK434.out 0).trans rfl, (blk_cell BK434.out 1).trans rfl, (blk_cell BK434.out 2).trans rfl, (blk_cell BK434.out 3).trans rfl⟩ (fun hHeld => ?_); refine with_tabW impl_Program_stateOf.tab5 impl_Program_stateOf.bits5 (fun HT_ HW_ => ?_)
      generalize wr.drew = w13 at HO_5 BK434 HB hHeld ⊢
      refine pure_ (i := 0) (N := some 13) (v := ?_) (a' := ?_) #[true, false, false, false, false, false, false, false, false, false, false, false, false, false, false] rfl rfl (any_of HT_.out (by kernel_rfl)) (fun _ _ _ h => h) (Or.inl ⟨by rfl, ?_⟩) ?_ ?_
      rotate_left
      ·intro w'
       go_simp
       with_reducible rfl
      rotate_left
      ·simp only [Act.put, List.setIfInBounds_toArray, List.set_cons_zero, List.set_cons_succ, i64_w, i32_w]
       rfl
      refine pure_ (i := 1) (N := some 14) (v := ?_) (a' := ?_) #[true, true, false, false, false, false, false, false, false, false, false, false, false, false, false] rfl rfl (any_of HT_.out (by kernel_rfl)) (fun _ _ _ h => h) (Or.inl ⟨by rfl, ?_⟩) ?_ ?_
      rotate_left
      ·intro w'
       go_simp
       with_reducible rfl
      rotate_left
      ·simp only [Act.put, List.setIfInBounds_toArray, List.set_cons_zero, List.set_cons_succ, i64_w, i32_w]
       rfl
      refine pure_ (i := 2) (N := some 15) (v := ?_) (a' := ?_) #[true, true, true, false, false, false, false, false, false, false, false, false, false, false, false] rfl rfl (any_of HT_.out (by kernel_rfl)) (fun _ _ _ h => h) (Or.inl ⟨by rfl, ?_⟩) ?_ ?_
      rotate_left
      ·intro w'
       go_simp
       with_reducible rfl
      rotate_left
      ·simp only [Act.put, List.setIfInBounds_toArray, List.set_cons_zero, List.set_cons_succ, i64_w, i32_w]
       rfl
      refine pure_ (i := 3) (N := some 16) (v := ?_) (a' := ?_) #[true, true, true, true, false, false, false, false, false, false, false, false, false, false, false] rfl rfl (any_of HT_.out (by kernel_rfl)) (fun _ _ _ h => h) (Or.inl ⟨by rfl, ?_⟩) ?_ ?_
      rotate_left
      ·intro w'
       go_simp
       with_reducible rfl
      rotate_left
      ·simp only [Act.put, List.setIfInBounds_toArray, List.set_cons_zero, List.set_cons_succ, i64_w, i32_w]
       rfl
      refine pure_ (i := 5) (N := some 18) (v := ?_) (a' := ?_) #[true, true, true, true, false, true, false, false, false, false, false, false, false, false, false] rfl rfl (any_of HT_.out (by kernel_rfl)) (fun _ _ _ h => h) (Or.inl ⟨by rfl, ?_⟩) ?_ ?_
      rotate_left
      ·intro w'
       go_simp
       with_reducible rfl
      rotate_left
      ·simp only [Act.put, List.setIfInBounds_toArray, List.set_cons_zero, List.set_cons_succ, i64_w, i32_w]
       rfl
      refine pure_ (i := 8) (N := some 21) (v := ?_) (a' := ?_) #[true, true, true, true, false, true, false, false, true, false, false, false, false, false, false] rfl rfl (any_of HT_.out (by kernel_rfl)) (fun _ _ _ h => h) (Or.inl ⟨by rfl, ?_⟩) ?_ ?_
      rotate_left
      ·intro w'
       go_simp
       with_reducible rfl
      rotate_left
      ·simp only [Act.put, List.setIfInBounds_toArray, List.set_cons_zero, List.set_cons_succ, i64_w, i32_w]
       rfl
      refine take_ (i := 4) (N := some 17) (v := ?_) (a' := ?_) #[true, true, true, true, true, true, false, false, true, false, false, false, false, false, false] rfl rfl (take_ofW HT_.out HW_.out (by kernel_rfl)) (fun _ _ _ h => h) (Or.inl ⟨by rfl, ?_⟩) hHeld ?_ ?_
      rotate_left
      ·rintro w' ⟨s0, s1, s2, s3⟩
       go_simp
       with_reducible rfl
      rotate_left
      ·simp only [Act.put, List.setIfInBounds_toArray, List.set_cons_zero, List.set_cons_succ, i64_w, i32_w]
       rfl
      refine pure_ (i := 6) (N := some 19) (v := ?_) (a' := ?_) #[true, true, true, true, true, true, true, false, true, false, false, false, false, false, false] rfl rfl (any_of HT_.out (by kernel_rfl)) (fun _ _ _ h => h) (Or.inl ⟨by rfl, ?_⟩) ?_ ?_
      rotate_left
      ·intro w'
       go_simp
       with_reducible rfl
      rotate_left
      ·simp only [Act.put, List.setIfInBounds_toArray, List.set_cons_zero, List.set_cons_succ, i64_w, i32_w]
       rfl
      refine pure_ (i := 7) (N := some 20) (v := ?_) (a' := ?_) #[true, true, true, true, true, true, true, true, true, false, false, false, false, false, false] rfl rfl (any_of HT_.out (by kernel_rfl)) (fun _ _ _ h => h) (Or.inl ⟨by rfl, ?_⟩) ?_ ?_
      rotate_left
      ·intro w'
       go_simp
       with_reducible rfl
      rotate_left
      ·simp only [Act.put, List.setIfInBounds_toArray, List.set_cons_zero, List.set_cons_succ, i64_w, i32_w]
       rfl
      refine take_ (i := 9) (N := some 22) (v := ?_) (a' := ?_) #[true, true, true, true, true, true, true, true, true, true, false, false, false, false, false] rfl rfl (take_ofW HT_.out HW_.out (by kernel_rfl)) (fun _ _ _ h => h) (Or.inl ⟨by rfl, ?_⟩) hHeld ?_ ?_
      rotate_left
      ·rintro w' ⟨s0, s1, s2, s3⟩
       go_simp
       with_reducible rfl
      rotate_left
      ·simp only [Act.put, List.setIfInBounds_toArray, List.set_cons_zero, List.set_cons_succ, i64_w, i32_w]
       rfl
      refine one_ (i := 10) (N := some 23) #[true, true, true, true, true, true, true, true, true, true, true, false, false, false, false] rfl rfl (one_of HT_.out (by kernel_rfl)) (by decide) (fun K hK => ?_)
      refine goes_ Try.func61 (by kernel_rfl) rfl #[.int .i64 a0_0] (by rfl) rfl rfl qG ?_
      with_reducible refine (impl_mask.calls a0_0 t438 _ A11.out).mono ?_
      rintro e w' ⟨rfl, ⟨nd, rfl⟩⟩
      refine ⟨_, rfl, ?_⟩
      refine hK.out _ _ ⟨(blk_cell BK434.out 0).trans rfl, (blk_cell BK434.out 1).trans rfl, (blk_cell BK434.out 2).trans rfl, (blk_cell BK434.out 3).trans rfl⟩ (fun hHeld => ?_)
      clear hK K
      refine norm_ (a' := ?_) ?_ ?_
      rotate_left
      ·show Act.put _ (some 23) _ = _
       simp only [Act.put, List.setIfInBounds_toArray, List.set_cons_zero, List.set_cons_succ, i64_w, i32_w]
       rfl
      refine pure_ (i := 11) (N := some 24) (v := ?_) (a' := ?_) #[true, true, true, true, true, true, true, true, true, true, true, true, false, false, false] rfl rfl (any_of HT_.out (by kernel_rfl)) (fun _ _ _ h => h) (Or.inl ⟨by rfl, ?_⟩) ?_ ?_
      rotate_left
      ·intro w'
       go_simp
       with_reducible rfl
      rotate_left
      ·simp only [Act.put, List.setIfInBounds_toArray, List.set_cons_zero, List.set_cons_succ, i64_w, i32_w]
       rfl
      refine one_ (i := 12) (N := some 25) #[true, true, true, true, true, true, true, true, true, true, true, true, true, false, false] rfl rfl (one_of HT_.out (by kernel_rfl)) (by decide) (fun K hK => ?_)
      refine value_ (w1 := ?_) (v := ?_) (by rfl) rfl ?_ ?_
      rotate_left 2
      ·go_simp
       constructor
       ·rfl
       ·rfl
      refine hK.out _ _ ⟨(blk_cell (blk_alloc BK434.out _) 0).trans rfl, (blk_cell (blk_alloc BK434.out _) 1).trans rfl, (blk_cell (blk_alloc BK434.out _) 2).trans rfl, (blk_cell (blk_alloc BK434.out _) 3).trans rfl⟩ (fun hHeld => ?_)
      clear hK K
      refine norm_ (a' := ?_) ?_ ?_
      rotate_left
      ·show Act.put _ (some 25) _ = _
       simp only [Act.put, List.setIfInBounds_toArray, List.set_cons_zero, List.set_cons_succ, i64_w, i32_w]
       rfl
      refine one_ (i := 13) (N := some 26) #[true, true, true, true, true, true, true, true, true, true, true, true, true, true, false] rfl rfl (one_of HT_.out (by kernel_rfl)) (by decide) (fun K hK => ?_)
      refine Kd.R_append_step (Kd.int .u64) (w0 := w) w.heap.size (by rfl) (.tmp 13) (.tmp 25) 37 66 (.int .u64 0) 8 rfl Try.underlying37 info66 rfl (by decide) (by omega) u5 x5_1 (Go.bits .and .u64 (ji10) t438) [.int .u64 (Go.bits .and .u64 (ji10) t438)] (fun _ => True) (fun _ => False) rfl rfl ?aP (fun _ hk => hk.elim) ?aF ?aO ?aB ?aS ?aL ?_
      (case aP => exact rfl)
      (case aB => exact (qB))
      (case aF => exact (fun _ _ => trivial))
      (case aO => exact (qR HO_5.out))
      (case aS => exact (below_size (qB)))
      (case aL => have := LMc12.out; omega)
      intro v440 w14 ho hb hg hat
      rw [← Ny439.out] at ho
      have n0_ := Aside0.mk (blk_grown (g := gb434) (o := .cells #[.int .i64 a0_0, .int .i64 a0_1, .slice A0_2 l0_2.length c0_2, .slice A0_3 l0_3.length c0_3] 31 (0, 0)) (qK BK434.out) hg (Kd.R_ne HO_5.out BK434.out (by decide)))
      have n1_ := Aside0.mk (hb)
      have n2_ := Aside0.mk (ho)
      clear BK434
      clear HB
      clear HO_5
      have BK434 := n0_
      have HB := n1_
      have HO441 := n2_
      clear n0_ n1_ n2_
      clear ho hb hg hat
      refine hK.out _ _ ⟨(blk_cell BK434.out 0).trans rfl, (blk_cell BK434.out 1).trans rfl, (blk_cell BK434.out 2).trans rfl, (blk_cell BK434.out 3).trans rfl⟩ (fun hHeld => ?_)
      clear hK K
      refine norm_ (a' := ?_) ?_ ?_
      rotate_left
      ·show Act.put _ (some 26) _ = _
       simp only [Act.put, List.setIfInBounds_toArray, List.set_cons_zero, List.set_cons_succ, i64_w, i32_w]
       rfl
      refine pure_ (i := 14) (N := some 5) (v := ?_) (a' := ?_) #[true, true, true, true, true, true, true, true, true, true, true, true, true, true, true] rfl rfl (any_of HT_.out (by kernel_rfl)) (fun _ _ _ h => h) (Or.inl ⟨by rfl, ?_⟩) ?_ ?_
      rotate_left
      ·intro w'
       go_simp
       with_reducible rfl
      rotate_left
      ·simp only [Act.put, List.setIfInBounds_toArray, List.set_cons_zero, List.set_cons_succ, i64_w, i32_w]
       rfl
      refine done_ (done_of HT_.out (by kernel_rfl)) ?_
      try go_wp2
      go_roundg k1
      case measure => have := HK1.out; omega
      case rel => exact ⟨(y439), (wrap64 (x10_1 + 1)), qS, H', ⟨by have := HK1.out; omega⟩, ⟨qR HO441.out⟩, ⟨by exact qK BK434.out⟩, ⟨qB⟩⟩
     ·rw [if_neg c12] at H
      exact absurd H (by simp)
    ·rw [if_neg c9] at H
     exact absurd H (by simp)
   ·rw [if_neg c7] at H
    have c7b0 : decide (x10_1 < a0_1) = false := decide_eq_false c7
    clear c7
    obtain rfl := Option.some.inj H
    go_wp2
    go_ret
    exact ⟨_, qE, qR HO_5.out, qB⟩

/-! ### impl_StateOf: function 19 -/
def impl_StateOf.f (k : Nat) (a0_0 : Int) (a0_1 : Int) (l0_2 : List (S82)) (l0_3 : List (S54)) (a1 : Int) : Option (List Int × Bool) := (impl_isNo.f k a0_0 a0_1 l0_2 l0_3 a1).bind fun t443 => (if t443 = true then ((impl_Program_stateOf.f k a0_0 a0_1 l0_2 l0_3 a1).bind fun t444 => (some (t444, true))) else (some (([] : List Int), false)))
theorem impl_StateOf.mono : ∀ a0 a1 a2 a3 a4 k, LeO (impl_StateOf.f k a0 a1 a2 a3 a4) (impl_StateOf.f (k + 1) a0 a1 a2 a3 a4) := by
 intro a0 a1 a2 a3 a4 k
 unfold impl_StateOf.f
 repeat' first
   | (with_reducible exact impl_Program_stateOf.mono _ _ _ _ _ _)
   | (with_reducible exact impl_isNo.mono _ _ _ _ _ _)
   | (with_reducible first | exact LeO.refl _ | exact LeO.none _ | refine LeO.ite ?_ ?_ | refine LeO.bind ?_ (fun _ => ?_))
   | exact impl_Program_stateOf.mono _ _ _ _ _ _
   | exact impl_isNo.mono _ _ _ _ _ _
   | exact LeO.none _ | refine LeO.ite ?_ ?_ | refine LeO.bind ?_ (fun _ => ?_)
set_option maxHeartbeats 8000000 in
set_option maxRecDepth 100000 in
theorem impl_StateOf.calls (k : Nat) (a0_0 : Int) (a0_1 : Int) (A0_2 : Option Addr) (c0_2 : Nat) (l0_2 : List (S82)) (A0_3 : Option Addr) (c0_3 : Nat) (l0_3 : List (S54)) (a1 : Int) (r1 : List Int) (r2 : Bool) (w : World) (hr0_2 : Kd.C k82 w A0_2 l0_2.length l0_2) (hc0_2 : l0_2.length ≤ c0_2) (hr0_3 : Kd.C k54 w A0_3 l0_3.length l0_3) (hc0_3 : l0_3.length ≤ c0_3) (h : impl_StateOf.f k a0_0 a0_1 l0_2 l0_3 a1 = some (r1, r2)) :
  Calls Try.prog 19 #[.agg #[.int .i64 a0_0, .int .i64 a0_1, .slice A0_2 l0_2.length c0_2, .slice A0_3 l0_3.length c0_3], .int .i64 a1] w fun e w' => ∃ v0_ : Value, e = .returned (.tuple #[v0_, .bool r2]) ∧ Kd.R (Kd.int .u64) 66 w' w.heap.size (fun _ => True) v0_ r1 ∧ Below w.heap.size w w' := by
 have hu31 := Try.underlying31
 have HR0_2 := Aside0.mk hr0_2
 have HC0_2 := Aside0.mk hc0_2
 clear hr0_2 hc0_2
 have HR0_3 := Aside0.mk hr0_3
 have HC0_3 := Aside0.mk hc0_3
 clear hr0_3 hc0_3
 have HB := Aside0.mk (Below.refl w.heap.size w)
 have H : ((impl_isNo.f k a0_0 a0_1 l0_2 l0_3 a1).bind fun t443 => (if t443 = true then ((impl_Program_stateOf.f k a0_0 a0_1 l0_2 l0_3 a1).bind fun t444 => (some (t444, true))) else (some (([] : List Int), false)))) = some (r1, r2) := h
 clear h
 replace H := Option.bind_eq_some_iff.mp H
 obtain ⟨t443, A30, H⟩ := H
 replace H : (if t443 = true then ((impl_Program_stateOf.f k a0_0 a0_1 l0_2 l0_3 a1).bind fun t444 => (some (t444, true))) else (some (([] : List Int), false))) = some (r1, r2) := H
 have A3 := Aside0.mk A30
 clear A30
 by_cases c4 : t443 = true
 ·subst c4
  have H1 : ((impl_Program_stateOf.f k a0_0 a0_1 l0_2 l0_3 a1).bind fun t444 => (some (t444, true))) = some (r1, r2) := by rw [if_pos rfl] at H; exact H
  clear H
  have H := H1
  clear H1
  replace H := Option.bind_eq_some_iff.mp H
  obtain ⟨t444, A50, H⟩ := H
  replace H : (some (t444, true)) = some (r1, r2) := H
  have A5 := Aside0.mk A50
  clear A50
  simp only [Option.some.injEq, Prod.mk.injEq] at H
  obtain ⟨rfl, rfl⟩ := H
  go_enter Try.func19, Try.ntmps19
  go_wp2_with (first | ((with_reducible refine gate_dst (N := 2) rfl ?_); refine box_event ?hg (N := 2) ?hd (cs := #[.int .i64 a0_0, .int .i64 a0_1, .slice A0_2 l0_2.length c0_2, .slice A0_3 l0_3.length c0_3]) (t := 31) ?hr ?_; (case hd => rfl); (case hg => rfl); (case hr => first | (go_simp; done) | (go_simp; rfl)); intro gb442 hg w6 hbox hb; have n0_ := Aside0.mk (below_step (qB) hb); have n1_ := Aside0.mk (hbox); have n2_ := Aside0.mk ((by rw [hg]; exact (below_size (qB)) : w.heap.size ≤ gb442)); have n3_ := Aside0.mk ((by rw [hg]; exact (below_size (qB)) : w.heap.size ≤ gb442)); clear HB; have HB := n0_; have BK442 := n1_; have GW442 := n2_; have GE442 := n3_; clear n0_ n1_ n2_ n3_; clear hb hbox hg; have hcz7_0 : w6.cell? ⟨gb442, 0, none⟩ = some (.int .i64 a0_0) := (blk_cell BK442.out 0).trans rfl; have hcz7_1 : w6.cell? ⟨gb442, 1, none⟩ = some (.int .i64 a0_1) := (blk_cell BK442.out 1).trans rfl; have hcz7_2 : w6.cell? ⟨gb442, 2, none⟩ = some (.slice A0_2 l0_2.length c0_2) := (blk_cell BK442.out 2).trans rfl; have hcz7_3 : w6.cell? ⟨gb442, 3, none⟩ = some (.slice A0_3 l0_3.length c0_3) := (blk_cell BK442.out 3).trans rfl; have hfz7_0 := blk_frozen BK442.out 0; have hfz7_1 := blk_frozen BK442.out 1; have hfz7_2 := blk_frozen BK442.out 2; have hfz7_3 := blk_frozen BK442.out 3) | ((with_reducible refine gate_callee (f := 46) rfl ?_); refine goesL_ (some 8) rfl rfl Try.func46 (by kernel_rfl) rfl #[.agg #[.int .i64 a0_0, .int .i64 a0_1, .slice A0_2 l0_2.length c0_2, .slice A0_3 l0_3.length c0_3], .int .i64 a1] rfl qG ?_; (with_reducible refine (impl_isNo.calls k a0_0 a0_1 _ _ l0_2 _ _ l0_3 a1 true _ ?side1 ?side2 ?side3 ?side4 A3.out).mono ?_); (case side1 => exact qC (Kd.C_below HR0_2.out HB.out)); (case side2 => exact HC0_2.out); (case side3 => exact qC (Kd.C_below HR0_3.out HB.out)); (case side4 => exact HC0_3.out); rintro e w8 ⟨rfl, hb⟩; refine ⟨_, rfl, ?_⟩; have n0_ := Aside0.mk (blk_below (g := gb442) (o := .cells #[.int .i64 a0_0, .int .i64 a0_1, .slice A0_2 l0_2.length c0_2, .slice A0_3 l0_3.length c0_3] 31 (0, 0)) (qK BK442.out) hb); have n1_ := Aside0.mk (below_step (qB) hb); clear BK442; clear HB; have BK442 := n0_; have HB := n1_; clear n0_ n1_; (try clear hb); (try clear hb2); (try clear hk); (try clear hi); have hcz9_0 : w8.cell? ⟨gb442, 0, none⟩ = some (.int .i64 a0_0) := (blk_cell BK442.out 0).trans rfl; have hcz9_1 : w8.cell? ⟨gb442, 1, none⟩ = some (.int .i64 a0_1) := (blk_cell BK442.out 1).trans rfl; have hcz9_2 : w8.cell? ⟨gb442, 2, none⟩ = some (.slice A0_2 l0_2.length c0_2) := (blk_cell BK442.out 2).trans rfl; have hcz9_3 : w8.cell? ⟨gb442, 3, none⟩ = some (.slice A0_3 l0_3.length c0_3) := (blk_cell BK442.out 3).trans rfl; have hfz9_0 := blk_frozen BK442.out 0; have hfz9_1 := blk_frozen BK442.out 1; have hfz9_2 := blk_frozen BK442.out 2; have hfz9_3 := blk_frozen BK442.out 3) | ((with_reducible refine gate_callee (f := 47) rfl ?_); refine goesL_ (some 12) rfl rfl Try.func47 (by kernel_rfl) rfl #[.agg #[.int .i64 a0_0, .int .i64 a0_1, .slice A0_2 l0_2.length c0_2, .slice A0_3 l0_3.length c0_3], .int .i64 a1] rfl qG ?_; (with_reducible refine (impl_Program_stateOf.calls k a0_0 a0_1 _ _ l0_2 _ _ l0_3 a1 t444 _ ?side1 ?side2 ?side3 ?side4 A5.out).mono ?_); (case side1 => exact qC (Kd.C_below HR0_2.out HB.out)); (case side2 => exact HC0_2.out); (case side3 => exact qC (Kd.C_below HR0_3.out HB.out)); (case side4 => exact HC0_3.out); rintro e w10 ⟨v445, rfl, ho0, hb⟩; refine ⟨_, rfl, ?_⟩; have n0_ := Aside0.mk (Kd.R_lower ho0 (below_size (qB))); have n1_ := Aside0.mk (blk_below (g := gb442) (o := .cells #[.int .i64 a0_0, .int .i64 a0_1, .slice A0_2 l0_2.length c0_2, .slice A0_3 l0_3.length c0_3] 31 (0, 0)) (qK BK442.out) hb); have n2_ := Aside0.mk (below_step (qB) hb); clear BK442; clear HB; have HO446 := n0_; have BK442 := n1_; have HB := n2_; clear n0_ n1_ n2_; (try clear hb); (try clear hb2); (try clear hk); (try clear hi); (try clear ho0)))
  go_ret2
  exact ⟨_, qE, qR HO446.out, qB⟩
 ·replace c4 := Bool.eq_false_iff.mpr c4
  subst c4
  have H1 : (some (([] : List Int), false)) = some (r1, r2) := by rw [if_neg (show ¬ (false = true) by decide)] at H; exact H
  clear H
  have H := H1
  clear H1
  simp only [Option.some.injEq, Prod.mk.injEq] at H
  obtain ⟨rfl, rfl⟩ := H
  go_enter Try.func19, Try.ntmps19
  go_wp2_with (first | ((with_reducible refine gate_dst (N := 2) rfl ?_); refine box_event ?hg (N := 2) ?hd (cs := #[.int .i64 a0_0, .int .i64 a0_1, .slice A0_2 l0_2.length c0_2, .slice A0_3 l0_3.length c0_3]) (t := 31) ?hr ?_; (case hd => rfl); (case hg => rfl); (case hr => first | (go_simp; done) | (go_simp; rfl)); intro gb442 hg w11 hbox hb; have n0_ := Aside0.mk (below_step (qB) hb); have n1_ := Aside0.mk (hbox); have n2_ := Aside0.mk ((by rw [hg]; exact (below_size (qB)) : w.heap.size ≤ gb442)); have n3_ := Aside0.mk ((by rw [hg]; exact (below_size (qB)) : w.heap.size ≤ gb442)); clear HB; have HB := n0_; have BK442 := n1_; have GW442 := n2_; have GE442 := n3_; clear n0_ n1_ n2_ n3_; clear hb hbox hg; have hcz12_0 : w11.cell? ⟨gb442, 0, none⟩ = some (.int .i64 a0_0) := (blk_cell BK442.out 0).trans rfl; have hcz12_1 : w11.cell? ⟨gb442, 1, none⟩ = some (.int .i64 a0_1) := (blk_cell BK442.out 1).trans rfl; have hcz12_2 : w11.cell? ⟨gb442, 2, none⟩ = some (.slice A0_2 l0_2.length c0_2) := (blk_cell BK442.out 2).trans rfl; have hcz12_3 : w11.cell? ⟨gb442, 3, none⟩ = some (.slice A0_3 l0_3.length c0_3) := (blk_cell BK442.out 3).trans rfl; have hfz12_0 := blk_frozen BK442.out 0; have hfz12_1 := blk_frozen BK442.out 1; have hfz12_2 := blk_frozen BK442.out 2; have hfz12_3 := blk_frozen BK442.out 3) | ((with_reducible refine gate_callee (f := 46) rfl ?_); refine goesL_ (some 8) rfl rfl Try.func46 (by kernel_rfl) rfl #[.agg #[.int .i64 a0_0, .int .i64 a0_1, .slice A0_2 l0_2.length c0_2, .slice A0_3 l0_3.length c0_3], .int .i64 a1] rfl qG ?_; (with_reducible refine (impl_isNo.calls k a0_0 a0_1 _ _ l0_2 _ _ l0_3 a1 false _ ?side1 ?side2 ?side3 ?side4 A3.out).mono ?_); (case side1 => exact qC (Kd.C_below HR0_2.out HB.out)); (case side2 => exact HC0_2.out); (case side3 => exact qC (Kd.C_below HR0_3.out HB.out)); (case side4 => exact HC0_3.out); rintro e w13 ⟨rfl, hb⟩; refine ⟨_, rfl, ?_⟩; have n0_ := Aside0.mk (blk_below (g := gb442) (o := .cells #[.int .i64 a0_0, .int .i64 a0_1, .slice A0_2 l0_2.length c0_2, .slice A0_3 l0_3.length c0_3] 31 (0, 0)) (qK BK442.out) hb); have n1_ := Aside0.mk (below_step (qB) hb); clear BK442; clear HB; have BK442 := n0_; have HB := n1_; clear n0_ n1_; (try clear hb); (try clear hb2); (try clear hk); (try clear hi)))
  go_ret2
  exact ⟨_, qE, by first | exact Kd.R_nil _ _ _ _ _ | exact Kd.N_nil _ _ _ _ _ | exact Kd.V_nil _ _ _ _ _ | exact Kd.Q_nil _ _ _ _ _ | exact Kd.S_nil _ _ _ _ _, qB⟩


-- HAND
/-! ### marks0.lean -/
/-- What marking may leave in a cell's place. -/
def sameInt (v v' : Value) : Prop := v' = v ∨ ∃ kd a b, v = .int kd a ∧ v' = .int kd b
theorem sameInt.trans {a b c : Value} (h : sameInt a b) (k : sameInt b c) : sameInt a c := by
 rcases h with rfl | ⟨kd, x, y, rfl, rfl⟩
 ·exact k
 ·rcases k with rfl | ⟨kd', x', y', he, rfl⟩
  ·exact .inr ⟨kd, x, y, rfl, rfl⟩
  ·injection he with h1 h2
   subst h1
   exact .inr ⟨kd, x, y', rfl, rfl⟩
/-- W is w where whole numbers in P's blocks have been written over. -/
structure MK (w W : World) (P : Nat → Prop) : Prop where
 os : W.os = w.os
 tape : W.tape = w.tape
 output : W.output = w.output
 size : w.heap.size ≤ W.heap.size
 out : ∀ k : Nat, k < w.heap.size → ¬ P k → W.heap[k]? = w.heap[k]?
 rows : ∀ (k : Nat) (cs : Array Value) e fr, w.heap[k]? = some (Obj.cells cs e fr) → ∃ cs', W.heap[k]? = some (Obj.cells cs' e fr) ∧ ∀ (j : Nat) (v : Value), cs[j]? = some v → ∃ v', cs'[j]? = some v' ∧ sameInt v v'
theorem MK.refl (w : World) (P : Nat → Prop) : MK w w P := ⟨rfl, rfl, rfl, Nat.le_refl _, fun _ _ _ => rfl, fun _ cs _ _ h => ⟨cs, h, fun _ v hv => ⟨v, hv, .inl rfl⟩⟩⟩
theorem MK.trans {a b c : World} {P : Nat → Prop} (h : MK a b P) (k : MK b c P) : MK a c P := by
 refine ⟨k.os.trans h.os, k.tape.trans h.tape, k.output.trans h.output, Nat.le_trans h.size k.size, fun i hi hn => (k.out i (Nat.lt_of_lt_of_le hi h.size) hn).trans (h.out i hi hn), fun i cs e fr hc => ?_⟩
 obtain ⟨cs1, h1, g1⟩ := h.rows i cs e fr hc
 obtain ⟨cs2, h2, g2⟩ := k.rows i cs1 e fr h1
 refine ⟨cs2, h2, fun j v hv => ?_⟩
 obtain ⟨v1, hv1, s1⟩ := g1 j v hv
 obtain ⟨v2, hv2, s2⟩ := g2 j v1 hv1
 exact ⟨v2, hv2, s1.trans s2⟩
theorem MK.of_below {w W : World} (P : Nat → Prop) (h : Below w.heap.size w W) : MK w W P :=
 ⟨h.os, h.tape, h.output, h.size, fun k hk _ => h.block k hk, fun k cs _ _ hc => ⟨cs, (h.block k (blk_lt hc)).trans hc, fun _ v hv => ⟨v, hv, .inl rfl⟩⟩⟩
theorem MK.drewN {w W : World} {P : Nat → Prop} (h : MK w W P) (n : Nat) : MK w (W.drewN n) P := ⟨h.os, h.tape, h.output, h.size, h.out, h.rows⟩
theorem MK.drew {w W : World} {P : Nat → Prop} (h : MK w W P) : MK w W.drew P := h.drewN 1
theorem MK.kept {w W : World} {P : Nat → Prop} (h : MK w W P) : Kept w W P := ⟨h.size, h.out⟩
theorem MK.below {w0 w W : World} {P : Nat → Prop} (h : MK w W P) (hB : Below w0.heap.size w0 w) (hP : ∀ k, P k → w0.heap.size ≤ k) : Below w0.heap.size w0 W :=
 ⟨h.os.trans hB.os, h.tape.trans hB.tape, h.output.trans hB.output, Nat.le_trans hB.size h.size, fun k hk => (h.out k (Nat.lt_of_lt_of_le hk hB.size) (fun hp => by have := hP k hp; omega)).trans (hB.block k hk)⟩
theorem MK.set {w W : World} {P : Nat → Prop} (h : MK w W P) {g j : Nat} {cs : Array Value} {e : TypeId} {kd : IntKind} {x : Int} (hb : W.heap[g]? = some (.cells cs e (0, 0))) (hc : cs[j]? = some (.int kd x)) (hP : P g) (y : Int) : MK w (W.setCell ⟨g, j, none⟩ (.int kd y)) P := by
 refine h.trans ⟨rfl, rfl, rfl, by simp [World.setCell], fun k hk hn => Below.heap_setCell _ _ _ _ (fun e => hn (by rw [e]; exact hP)), fun k cs1 e1 fr hk => ?_⟩
 by_cases hkg : k = g
 ·subst hkg
  rw [hb] at hk
  injection hk with hk
  injection hk with h1 h2 h3
  subst h1 h2 h3
  refine ⟨_, blk_set hb j _, fun i v hv => ?_⟩
  rw [Array.getElem?_setIfInBounds]
  by_cases hij : j = i
  ·subst hij
   rw [if_pos rfl]
   rw [hc] at hv
   injection hv with hv
   subst hv
   have : j < cs.size := by
    rcases Nat.lt_or_ge j cs.size with h | h
    ·exact h
    ·rw [Array.getElem?_eq_none h] at hc; cases hc
   rw [if_pos this]
   exact ⟨_, rfl, .inr ⟨kd, x, y, rfl, rfl⟩⟩
  ·rw [if_neg hij]
   exact ⟨v, hv, .inl rfl⟩
 ·exact ⟨cs1, (Below.heap_setCell _ _ _ _ hkg).trans hk, fun _ v hv => ⟨v, hv, .inl rfl⟩⟩
/-- A row whose cells are as Q says. -/
def MRow (w : World) (e : Nat) (m : Nat) (P : Nat → Prop) (Q : Nat → Value → Prop) (v : Value) (n : Nat) : Prop :=
 (n = 0 ∧ ∃ A c, v = .slice A 0 c) ∨ ∃ g c cs, v = .slice (some ⟨g, 0, none⟩) n c ∧ w.heap[g]? = some (.cells cs e (0, 0)) ∧ P g ∧ ∀ j, j < m → ∃ x, cs[j]? = some x ∧ Q j x
theorem MRow.move {w W : World} {e m n : Nat} {P P' : Nat → Prop} {Q : Nat → Value → Prop} {v : Value} (h : MRow w e m P Q v n) (hm : MK w W P') (hQ : ∀ j x x', Q j x → sameInt x x' → Q j x') : MRow W e m P Q v n := by
 rcases h with h | ⟨g, c, cs, hv, hb, hp, hq⟩
 ·exact .inl h
 ·obtain ⟨cs', hb', hc'⟩ := hm.rows g cs e _ hb
  refine .inr ⟨g, c, cs', hv, hb', hp, fun j hj => ?_⟩
  obtain ⟨x, hx, qx⟩ := hq j hj
  obtain ⟨x', hx', hs⟩ := hc' j x hx
  exact ⟨x', hx', hQ j x x' qx hs⟩
def isInt (kd : IntKind) (x : Value) : Prop := ∃ y, x = .int kd y
theorem isInt.move {kd : IntKind} {x x' : Value} (h : isInt kd x) (hs : sameInt x x') : isInt kd x' := by
 obtain ⟨y, rfl⟩ := h
 rcases hs with rfl | ⟨kd', a, b, he, rfl⟩
 ·exact ⟨y, rfl⟩
 ·injection he with h1 h2
  subst h1
  exact ⟨b, rfl⟩
theorem slice_move {A : Option Addr} {n c : Nat} {x' : Value} (hs : sameInt (.slice A n c) x') : x' = .slice A n c := by
 rcases hs with rfl | ⟨kd', a, b, he, rfl⟩
 ·rfl
 ·cases he
/-- A row of the call's own, cell by cell. -/
theorem MRow.of_R {α : Type} {d : Kd α} {e base : Nat} {w : World} {P : Nat → Prop} {v : Value} {l : List α} (z : α) (h : d.R e w base P v l) (Q : Nat → Value → Prop)
  (hQ : ∀ i, i < l.length → ∀ c, c.length = d.sz → d.M w base P (l.getD i z) c → ∀ q x, c[q]? = some x → Q (i * d.sz + q) x) : MRow w e (l.length * d.sz) P Q v l.length := by
 rcases Nat.eq_zero_or_pos l.length with h0 | h0
 ·left
  obtain ⟨A, c, hv⟩ := Kd.R_slice h
  exact ⟨h0, A, c, by rw [hv, h0]⟩
 ·right
  obtain ⟨g, c, hv, _, _, cs, hb⟩ := Kd.R_form h h0
  subst hv
  refine ⟨g, c, cs, rfl, hb, h.1 g rfl, fun j hj => ?_⟩
  have hsz : 0 < d.sz := by
   rcases Nat.eq_zero_or_pos d.sz with h1 | h1
   ·rw [h1, Nat.mul_zero] at hj; omega
   ·exact h1
  have hi : j / d.sz < l.length := Nat.div_lt_of_lt_mul (by rw [Nat.mul_comm]; exact hj)
  have hq : j % d.sz < d.sz := Nat.mod_lt _ hsz
  have hj2 : j / d.sz * d.sz + j % d.sz = j := by rw [Nat.mul_comm]; exact Nat.div_add_mod _ _
  obtain ⟨cl, hcl, hM, hcc, _⟩ := Kd.R_elem h z ((j / d.sz : Nat) : Int) (Int.natCast_nonneg _) (Int.ofNat_lt.mpr hi)
  rw [Int.toNat_natCast] at hM hcc
  have hx : cl[j % d.sz]? = some (cl[j % d.sz]'(by rw [hcl]; exact hq)) := List.getElem?_eq_getElem _
  have h1 := hcc _ _ hx
  rw [blk_cell hb, hj2] at h1
  refine ⟨_, h1, ?_⟩
  have h2 := hQ _ hi cl hcl (d.M_mono (fun _ hk => hk.1) hM) _ _ hx
  rw [hj2] at h2
  exact h2


-- HAND
/-! ### marknode.lean -/
def QNode (j : Nat) (x : Value) : Prop := if j % 2 = 0 then isInt .i64 x else isInt .u64 x
theorem QNode.move (j : Nat) (x x' : Value) (h : QNode j x) (hs : sameInt x x') : QNode j x' := by
 unfold QNode at *
 split
 ·rename_i hj; rw [if_pos hj] at h; exact h.move hs
 ·rename_i hj; rw [if_neg hj] at h; exact h.move hs
/-- A row of nodes that may be marked. -/
def MNode (w : World) (P : Nat → Prop) (v : Value) (n : Nat) : Prop := MRow w 82 (n * 2) P QNode v n
theorem MNode.of_R {base : Nat} {w : World} {P : Nat → Prop} {v : Value} {l : List S82} (h : Kd.R k82 82 w base P v l) : MNode w P v l.length :=
 MRow.of_R z82 h QNode (fun i hi c hc hM q x hx => by
  obtain rfl := k82_openM hM
  rcases q with _ | _ | q
  ·injection hx with hx
   subst hx
   show QNode (i * 2 + 0) _
   unfold QNode
   rw [if_pos (by omega)]
   exact ⟨_, rfl⟩
  ·injection hx with hx
   subst hx
   show QNode (i * 2 + 1) _
   unfold QNode
   rw [if_neg (by omega)]
   exact ⟨_, rfl⟩
  ·cases hx)
set_option maxHeartbeats 8000000 in
set_option maxRecDepth 100000 in
theorem markNode_any (P : Nat → Prop) (v : Value) (n : Nat) (a : Int) (w : World) (h : MNode w P v n) (ha : 0 ≤ a) (hn : a + 2 * (n : Int) < 4611686018427387904) :
  Calls Try.prog 48 #[v, .int .i64 a] w fun e w' => e = .returned (.int .i64 (a + 2 * (n : Int))) ∧ MK w w' P := by
 rcases h with ⟨h0, A, c, hv⟩ | ⟨g, c, cs, hv, hb, hp, hq⟩
 ·subst h0
  subst hv
  have e0 : a + 2 * ((0 : Nat) : Int) = a := by omega
  rw [e0]
  clear hn e0
  go_enter Try.func48, Try.ntmps48
  go_wp2
  refine wp_loop_rounds 1 ?_
  rw [rounds_succ]
  go_wp2
  go_ret
  exact ⟨rfl, by repeat (first | exact MK.refl _ _ | apply MK.drewN | apply MK.drew)⟩
 ·subst hv
  have HB0 := Aside0.mk hb
  have HP := Aside0.mk hp
  have HQ := Aside0.mk hq
  have HN := Aside0.mk hn
  have HA := Aside0.mk ha
  clear hb hp hq hn ha
  go_enter Try.func48, Try.ntmps48
  go_wp2
  go_loopg [1, 5] n (fun gg v1 v5 wr => ∃ i : Nat, i ≤ n ∧ n - i ≤ gg ∧ v1 = .int .i64 (a + 2 * (i : Int)) ∧ v5 = .int .i64 i ∧ Aside0 (MK w wr P))
  case atStart => exact ⟨0, Nat.zero_le _, by omega, by simp, rfl, ⟨by repeat (first | exact MK.refl _ _ | apply MK.drewN | apply MK.drew)⟩⟩
  case round =>
   obtain ⟨i, hi, hg, rfl, rfl, HM⟩ := hrel
   by_cases hlt : i < n
   ·have hltz : (i : Int) < (n : Int) := by omega
    obtain ⟨cs', hb', hc'⟩ := HM.out.rows g cs _ _ HB0.out
    obtain ⟨x0, hx0, qx0⟩ := HQ.out (i * 2) (by omega)
    obtain ⟨x1, hx1, qx1⟩ := HQ.out (i * 2 + 1) (by omega)
    obtain ⟨y0, hy0, sy0⟩ := hc' _ _ hx0
    obtain ⟨y1, hy1, sy1⟩ := hc' _ _ hx1
    unfold QNode at qx0 qx1
    rw [if_pos (by omega)] at qx0
    rw [if_neg (by omega)] at qx1
    obtain ⟨m0, rfl⟩ := qx0.move sy0
    obtain ⟨m1, rfl⟩ := qx1.move sy1
    clear hx0 hx1 qx0 qx1 sy0 sy1 hc'
    have hc0 : wr.cell? ⟨g, i * 2, none⟩ = some (.int .i64 m0) := (blk_cell hb' _).trans hy0
    have hf0 : wr.frozen? ⟨g, i * 2, none⟩ = false := blk_frozen hb' _
    have hf1 : wr.frozen? ⟨g, i * 2 + 1, none⟩ = false := blk_frozen hb' _
    have M1 := HM.out.set hb' hy0 HP.out (a + 2 * (i : Int))
    have hb2 := blk_set hb' (i * 2) (.int .i64 (a + 2 * (i : Int)))
    have hy2 : (cs'.setIfInBounds (i * 2) (.int .i64 (a + 2 * (i : Int))))[i * 2 + 1]? = some (.int .u64 m1) := by rw [Array.getElem?_setIfInBounds, if_neg (by omega)]; exact hy1
    have M2 := M1.set hb2 hy2 HP.out (IntKind.u64.wrap (a + 2 * (i : Int) + 1))
    have e1 : wrap64 (a + 2 * (i : Int) + 1) = a + 2 * (i : Int) + 1 := by have := HA.out; have := HN.out; unfold wrap64; omega
    have e2 : wrap64 (a + 2 * (i : Int) + 1 + 1) = a + 2 * ((i + 1 : Nat) : Int) := by have := HA.out; have := HN.out; unfold wrap64; omega
    have e3 : wrap64 ((i : Int) + 1) = ((i + 1 : Nat) : Int) := by have := HA.out; have := HN.out; unfold wrap64; omega
    have hc1 : (wr.setCell ⟨g, i * 2, none⟩ (.int .i64 (a + 2 * (i : Int)))).cell? ⟨g, i * 2 + 1, none⟩ = some (.int .u64 m1) := (blk_cell hb2 _).trans hy2
    have HM2 := Aside0.mk M2
    have E2 := Aside0.mk e2
    have E3 := Aside0.mk e3
    clear hb2 hy2 M1 M2 hb' hy0 hy1 e2 e3
    have p5 := eq_true (show (0 : Int) ≤ (i : Int) from Int.natCast_nonneg _)
    have q5 := eq_true hltz
    go_wp2
    go_roundg (n - (i + 1))
    case measure => omega
    case rel => exact ⟨i + 1, by omega, by omega, by first | exact congrArg _ E2.out | (rw [E2.out]), by first | exact congrArg _ E3.out | (rw [E3.out]), by repeat (first | exact HM2 | apply MK.drewN | apply MK.drew)⟩
   ·have hltz : ¬ (i : Int) < (n : Int) := by omega
    obtain rfl : i = n := by omega
    go_wp2
    go_ret
    exact ⟨rfl, by repeat (first | exact HM.out | apply MK.drewN | apply MK.drew)⟩

end Go.Proofs.Ytkebpfpkohehgaa.X
