/- Go functions as Lean functions, each with the proof that its call comes to just its answer. Conditions: the arguments are of their kinds. -/
import Derived.Test.YtckgeanmljmhfaaX0
import Derived.Test.YtckgeanmljmhfaaX1
import Derived.RangeFuncNested
import Derived.RangeFuncCalls
import Derived.RangeFuncLeaves
import Derived.OwnWalkIn
import Derived.OrdersIn
import Derived.RangeFuncBound
import Derived.RangeFuncBox
import Derived.Shelf.Abstract
import Derived.Shelf.RegionOpen
import Derived.TacticsInMore
import Derived.LoopNIn
import Derived.LoopIn
namespace Go.Proofs.Ytckgeanmljmhfaa.X
open Go.RowKit Go.Proofs.YtckgeanmljmhfaaW.PrintWords Go.Proofs.YtckgeanmljmhfaaW.PrintLast Go.Proofs.YtckgeanmljmhfaaW.PrintMore
attribute [local go_sem] max2_int min2_int max_two min_two max_three min_three max_four min_four   -- for this text's walks alone
set_option linter.unusedVariables false
set_option linter.unusedSimpArgs false

/-! ### spec_StateFrom: function 29 -/
mutual
def spec_StateFrom.j0 : Nat → Int → List Bool → Bool → Option (List Int × Bool)
 | 0, _, _, _ => none
 | k + 1, x0, x1, x26 => if x26 = true then (some (([] : List Int), false)) else (if x0 = 0 then (none) else (if 0 ≤ (wrap64 ((x1.length : Int) / x0)) then (if (wrap64 ((x1.length : Int) / x0) : Int).toNat ≤ 35184372088832 then (spec_StateFrom.l0 k x0 (List.replicate (wrap64 ((x1.length : Int) / x0) : Int).toNat 0) x1 (x1.length : Int) 0) else (none)) else (none)))
def spec_StateFrom.l0 : Nat → Int → List Int → List Bool → Int → Int → Option (List Int × Bool)
 | 0, _, _, _, _, _ => none
 | k + 1, x0, x6, x32, x33, x34 => if x34 < x33 then (if 0 ≤ x34 then (if x34 < (x32.length : Int) then (if x0 = 0 then (none) else (if 0 ≤ (wrap64 (Int.tdiv x34 x0)) then (if (wrap64 (Int.tdiv x34 x0)) < (x6.length : Int) then ((spec_l2Bool.f (rdOf false x32 x34)).bind fun t616 => (if 0 ≤ (IntKind.u64.wrap (Int.tmod x34 x0)) then (spec_StateFrom.l0 k x0 (x6.set ((wrap64 (Int.tdiv x34 x0)) : Int).toNat (Go.bits .or .u64 (rd x6 (wrap64 (Int.tdiv x34 x0))) (shl .u64 t616 (IntKind.u64.wrap (Int.tmod x34 x0))))) x32 x33 (wrap64 (x34 + 1))) else (none))) else (none)) else (none))) else (none)) else (none)) else (some (x6, true))
end
def spec_StateFrom.f (k : Nat) (a0 : Int) (l1 : List Bool) : Option (List Int × Bool) := (spec_l5Wide.f a0).bind fun t609 => (if t609 = true then (if a0 = 0 then (none) else (if ((l1.length : Int) % a0) = 0 then ((spec_l1In.f (wrap64 ((l1.length : Int) / a0)) 1 4).bind fun t610 => (spec_StateFrom.j0 k a0 l1 (!t610))) else (spec_StateFrom.j0 k a0 l1 true))) else (spec_StateFrom.j0 k a0 l1 true))
theorem spec_StateFrom.mono_l : ∀ k, (∀ y0 y1 y2, LeO (spec_StateFrom.j0 k y0 y1 y2) (spec_StateFrom.j0 (k + 1) y0 y1 y2)) ∧ (∀ y0 y1 y2 y3 y4, LeO (spec_StateFrom.l0 k y0 y1 y2 y3 y4) (spec_StateFrom.l0 (k + 1) y0 y1 y2 y3 y4))
 | 0 => ⟨fun _ _ _ r h => by simp [spec_StateFrom.j0] at h, fun _ _ _ _ _ r h => by simp [spec_StateFrom.l0] at h⟩
 | k + 1 => by
  obtain ⟨ih0, ih1⟩ := spec_StateFrom.mono_l k
  refine ⟨?_, ?_⟩
  ·intro y0 y1 y2
   unfold spec_StateFrom.j0
   repeat' first
   | (with_reducible exact ih0 _ _ _)
   | (with_reducible exact ih1 _ _ _ _ _)
   | (with_reducible first | exact LeO.refl _ | exact LeO.none _ | refine LeO.ite ?_ ?_ | refine LeO.bind ?_ (fun _ => ?_))
   | exact ih0 _ _ _
   | exact ih1 _ _ _ _ _
   | exact LeO.none _ | refine LeO.ite ?_ ?_ | refine LeO.bind ?_ (fun _ => ?_)
  ·intro y0 y1 y2 y3 y4
   unfold spec_StateFrom.l0
   repeat' first
   | (with_reducible exact ih0 _ _ _)
   | (with_reducible exact ih1 _ _ _ _ _)
   | (with_reducible first | exact LeO.refl _ | exact LeO.none _ | refine LeO.ite ?_ ?_ | refine LeO.bind ?_ (fun _ => ?_))
   | exact ih0 _ _ _
   | exact ih1 _ _ _ _ _
   | exact LeO.none _ | refine LeO.ite ?_ ?_ | refine LeO.bind ?_ (fun _ => ?_)
theorem spec_StateFrom.mono : ∀ a0 a1 k, LeO (spec_StateFrom.f k a0 a1) (spec_StateFrom.f (k + 1) a0 a1) := by
 intro a0 a1 k
 obtain ⟨ih0, ih1⟩ := spec_StateFrom.mono_l k
 unfold spec_StateFrom.f
 repeat' first
   | (with_reducible exact ih0 _ _ _)
   | (with_reducible exact ih1 _ _ _ _ _)
   | (with_reducible first | exact LeO.refl _ | exact LeO.none _ | refine LeO.ite ?_ ?_ | refine LeO.bind ?_ (fun _ => ?_))
   | exact ih0 _ _ _
   | exact ih1 _ _ _ _ _
   | exact LeO.none _ | refine LeO.ite ?_ ?_ | refine LeO.bind ?_ (fun _ => ?_)
def spec_StateFrom.T7 : Bool × List (List Nat × List Nat) := (true, [([], []), ([], []), ([], []), ([1, 2], [1, 2]), ([0, 3], [0, 3]), ([4], [4]), ([], []), ([6], [6]), ([], []), ([], []), ([8, 9], [8, 9]), ([10], [10]), ([7, 11], [7, 11]), ([5, 12], [5, 12]), ([0, 3, 0, 1, 2, 3, 4, 5, 6, 7, 8, 9, 10, 11, 12, 13], [0, 3]), ([14, 13, 7, 0, 1, 2, 3, 4, 5, 6, 7, 8, 9, 10, 11, 12, 13], [13, 14])])
def spec_StateFrom.B7 : List Nat := [0, 0, 0, 6, 15, 31, 0, 64, 0, 0, 768, 1792, 4032, 8191, 16383, 32767]
theorem spec_StateFrom.tab7 : rtab .any (opsOf Try.f29 7) = spec_StateFrom.T7 := by kernel_rfl
theorem spec_StateFrom.bits7 : waitsOk spec_StateFrom.T7.2 spec_StateFrom.B7 = true := by kernel_rfl
set_option maxHeartbeats 8000000 in
set_option maxRecDepth 100000 in
theorem spec_StateFrom.calls (k : Nat) (a0 : Int) (A1 : Option Addr) (c1 : Nat) (l1 : List Bool) (r1 : List Int) (r2 : Bool) (w : World) (hr1 : Kd.C Kd.bool w A1 l1.length l1) (hc1 : l1.length ≤ c1) (h : spec_StateFrom.f k a0 l1 = some (r1, r2)) :
  Calls Try.prog 29 #[.int .i64 a0, .slice A1 l1.length c1] w fun e w' => ∃ v0_ : Value, e = .returned (.tuple #[v0_, .bool r2]) ∧ Kd.R (Kd.int .u64) 40 w' w.heap.size (fun _ => True) v0_ r1 ∧ Below w.heap.size w w' := by
 have HR1 := Aside0.mk hr1
 have HC1 := Aside0.mk hc1
 clear hr1 hc1
 have HB := Aside0.mk (Below.refl w.heap.size w)
 have H : ((spec_l5Wide.f a0).bind fun t609 => (if t609 = true then (if a0 = 0 then (none) else (if ((l1.length : Int) % a0) = 0 then ((spec_l1In.f (wrap64 ((l1.length : Int) / a0)) 1 4).bind fun t610 => (spec_StateFrom.j0 k a0 l1 (!t610))) else (spec_StateFrom.j0 k a0 l1 true))) else (spec_StateFrom.j0 k a0 l1 true))) = some (r1, r2) := h
 clear h
 have HC3 := Aside0.mk H
 clear H
 go_enter Try.func29, Try.ntmps29
 go_upto_region 1 with (fail)
 go_cut [26] (fun v26 wc => ∃ (kq : Nat) (x26_2 : Bool), v26 = .bool x26_2 ∧ Aside0 (spec_StateFrom.j0 kq a0 l1 x26_2 = some (r1, r2)) ∧ Aside0 (kq ≤ k) ∧ Aside0 (Below w.heap.size w wc))
 case first =>
  have H := HC3.out
  clear HC3
  replace H := Option.bind_eq_some_iff.mp H
  obtain ⟨t609, A40, H⟩ := H
  replace H : (if t609 = true then (if a0 = 0 then (none) else (if ((l1.length : Int) % a0) = 0 then ((spec_l1In.f (wrap64 ((l1.length : Int) / a0)) 1 4).bind fun t610 => (spec_StateFrom.j0 k a0 l1 (!t610))) else (spec_StateFrom.j0 k a0 l1 true))) else (spec_StateFrom.j0 k a0 l1 true)) = some (r1, r2) := H
  have A4 := Aside0.mk A40
  clear A40
  by_cases c5 : t609 = true
  ·subst c5
   have H1 : (if a0 = 0 then (none) else (if ((l1.length : Int) % a0) = 0 then ((spec_l1In.f (wrap64 ((l1.length : Int) / a0)) 1 4).bind fun t610 => (spec_StateFrom.j0 k a0 l1 (!t610))) else (spec_StateFrom.j0 k a0 l1 true))) = some (r1, r2) := by rw [if_pos rfl] at H; exact H
   clear H
   have H := H1
   clear H1
   by_cases c6 : a0 = 0
   ·rw [if_pos c6] at H
    exact absurd H (by simp)
   ·rw [if_neg c6] at H
    have c6b0 : (a0 == 0) = false := beq_eq_false_iff_ne.mpr c6
    have c6b1 : (a0 != 0) = true := bne_iff_ne.mpr c6
    (first | rw [c6b0] | (simp only [i64_w, i32_w]; rw [c6b0]) | skip)
    by_cases c7 : ((l1.length : Int) % a0) = 0
    ·rw [if_pos c7] at H
     have c7b0 : (((l1.length : Int) % a0) == 0) = true := beq_iff_eq.mpr c7
     have c7b1 : (((l1.length : Int) % a0) != 0) = false := bne_eq_false_iff_eq.mpr c7
     clear c7
     replace H := Option.bind_eq_some_iff.mp H
     obtain ⟨t610, A80, H⟩ := H
     replace H : (spec_StateFrom.j0 k a0 l1 (!t610)) = some (r1, r2) := H
     have A8 := Aside0.mk A80
     clear A80
     have H' := Aside0.mk H
     clear H
     go_wp2_with (first | ((with_reducible refine gate_callee (f := 34) rfl ?_); refine goesL_ (some 10) rfl rfl Try.func34 (by kernel_rfl) rfl #[.int .i64 a0] rfl qG ?_; (with_reducible refine (spec_l5Wide.calls a0 true _ A4.out).mono ?_); rintro e w' ⟨rfl, ⟨nd, rfl⟩⟩; refine ⟨_, rfl, ?_⟩) | (go_at_call 56; (with_reducible refine (spec_l1In.calls (wrap64 ((l1.length : Int) / a0)) 1 4 t610 _ A8.out).mono ?_); rintro e w' ⟨rfl, ⟨nd, rfl⟩⟩))
     go_meet
     case rel => exact ⟨_, (!t610), qS, H', ⟨by first | omega | exact Nat.le_refl _⟩, ⟨qB⟩⟩
    ·rw [if_neg c7] at H
     have c7b0 : (((l1.length : Int) % a0) == 0) = false := beq_eq_false_iff_ne.mpr c7
     have c7b1 : (((l1.length : Int) % a0) != 0) = true := bne_iff_ne.mpr c7
     have H' := Aside0.mk H
     clear H
     go_wp2_with (first | ((with_reducible refine gate_callee (f := 34) rfl ?_); refine goesL_ (some 10) rfl rfl Try.func34 (by kernel_rfl) rfl #[.int .i64 a0] rfl qG ?_; (with_reducible refine (spec_l5Wide.calls a0 true _ A4.out).mono ?_); rintro e w' ⟨rfl, ⟨nd, rfl⟩⟩; refine ⟨_, rfl, ?_⟩))
     go_meet
     case rel => exact ⟨_, (true), qS, H', ⟨by first | omega | exact Nat.le_refl _⟩, ⟨qB⟩⟩
  ·replace c5 := Bool.eq_false_iff.mpr c5
   subst c5
   have H1 : (spec_StateFrom.j0 k a0 l1 true) = some (r1, r2) := by rw [if_neg (show ¬ (false = true) by decide)] at H; exact H
   clear H
   have H := H1
   clear H1
   have H' := Aside0.mk H
   clear H
   go_wp2_with (first | ((with_reducible refine gate_callee (f := 34) rfl ?_); refine goesL_ (some 10) rfl rfl Try.func34 (by kernel_rfl) rfl #[.int .i64 a0] rfl qG ?_; (with_reducible refine (spec_l5Wide.calls a0 false _ A4.out).mono ?_); rintro e w' ⟨rfl, ⟨nd, rfl⟩⟩; refine ⟨_, rfl, ?_⟩))
   go_meet
   case rel => exact ⟨_, (true), qS, H', ⟨by first | omega | exact Nat.le_refl _⟩, ⟨qB⟩⟩
 case rest =>
  clear HC3
  try clear c1
  try clear c2
  try clear p2
  try clear c3
  try clear c5
  try clear c6
  try clear c6b0
  try clear c6b1
  try clear p6
  try clear c7
  try clear c7b0
  try clear c7b1
  obtain ⟨kq, x26_2, rfl, HA, HJ2, HB⟩ := hcut
  cases kq with
  | zero => exact absurd HA.out (by simp [spec_StateFrom.j0])
  | succ kj2 =>
   have H := HA.out
   clear HA
   simp only [spec_StateFrom.j0] at H
   by_cases c9 : x26_2 = true
   ·subst c9
    have H1 : (some (([] : List Int), false)) = some (r1, r2) := by rw [if_pos rfl] at H; exact H
    clear H
    have H := H1
    clear H1
    simp only [Option.some.injEq, Prod.mk.injEq] at H
    obtain ⟨rfl, rfl⟩ := H
    go_wp2
    go_ret2
    exact ⟨_, qE, by first | exact Kd.R_nil _ _ _ _ _ | exact Kd.N_nil _ _ _ _ _ | exact Kd.V_nil _ _ _ _ _ | exact Kd.Q_nil _ _ _ _ _ | exact Kd.S_nil _ _ _ _ _, qB⟩
   ·replace c9 := Bool.eq_false_iff.mpr c9
    subst c9
    have H1 : (if a0 = 0 then (none) else (if 0 ≤ (wrap64 ((l1.length : Int) / a0)) then (if (wrap64 ((l1.length : Int) / a0) : Int).toNat ≤ 35184372088832 then (spec_StateFrom.l0 kj2 a0 (List.replicate (wrap64 ((l1.length : Int) / a0) : Int).toNat 0) l1 (l1.length : Int) 0) else (none)) else (none))) = some (r1, r2) := by rw [if_neg (show ¬ (false = true) by decide)] at H; exact H
    clear H
    have H := H1
    clear H1
    by_cases c10 : a0 = 0
    ·rw [if_pos c10] at H
     exact absurd H (by simp)
    ·rw [if_neg c10] at H
     have c10b0 : (a0 == 0) = false := beq_eq_false_iff_ne.mpr c10
     have c10b1 : (a0 != 0) = true := bne_iff_ne.mpr c10
     obtain ⟨ji11, hji11⟩ : ∃ j_ : Int, (wrap64 ((l1.length : Int) / a0)) = j_ := ⟨_, rfl⟩
     replace H : (if 0 ≤ (ji11) then (if (ji11 : Int).toNat ≤ 35184372088832 then (spec_StateFrom.l0 kj2 a0 (List.replicate (ji11 : Int).toNat 0) l1 (l1.length : Int) 0) else (none)) else (none)) = some (r1, r2) := by first | (rw [hji11] at H; exact H) | (simp only [hji11] at H ⊢; exact H)
     have hji11w : (IntKind.i64.wrap ((l1.length : Int) / a0)) = ji11 := (i64_w _).trans hji11
     by_cases c12 : 0 ≤ (ji11)
     ·rw [if_pos c12] at H
      have c12b0 := eq_true c12
      have c12b1 : decide (0 ≤ (ji11)) = true := decide_eq_true c12
      clear c12
      by_cases c13 : (ji11 : Int).toNat ≤ 35184372088832
      ·rw [if_pos c13] at H
       have c13b0 := eq_true c13
       have c13b1 : decide ((ji11 : Int).toNat ≤ 35184372088832) = true := decide_eq_true c13
       clear c13
       obtain ⟨y611, hy611⟩ : ∃ y_ : List Int, y_ = (List.replicate (ji11 : Int).toNat 0) := ⟨_, rfl⟩
       replace H : (spec_StateFrom.l0 kj2 a0 y611 l1 (l1.length : Int) 0) = some (r1, r2) := qY hy611 H
       have Ny611 := Aside0.mk hy611
       clear hy611
       have H' := Aside0.mk H
       clear H
       go_wp2_with (first | ((with_reducible refine gate_dst (N := 31) rfl ?_); (try (refine gate_guard (by rfl) ?_; dsimp only)); refine Kd.R_make (Kd.int .u64) _ 40 rfl (N := 31) rfl 39 _ _ rfl ji11 rfl rfl Try.underlying39 (.int .u64 0) 8 info40 rfl (by decide) (by omega) 0 (ok := fun _ => True) (okp := fun _ => True) rfl (fun _ hk => hk) trivial qD (Nat.le_trans (Nat.mul_le_mul_right _ (qD : ji11.toNat ≤ 35184372088832)) (by omega)) (Below.refl _ _) (Nat.le_refl _) ?_; intro v612 w14 ho15 hb hg_ hnew_; clear hg_ hnew_; (first | rw [← Ny611.out] at ho15 | (simp only [Int.reduceToNat] at ho15; rw [← Ny611.out] at ho15)); have n0_ := Aside0.mk (Kd.R_lower ho15 (below_size (qB))); have n1_ := Aside0.mk (below_step (qB) hb); clear HB; have HO613 := n0_; have HB := n1_; clear n0_ n1_; clear hb ho15))
       go_loopg [34] kj2 (fun kq v34 w' => ∃ (x6_2 : List Int) (x34_2 : Int), v34 = .int .i64 x34_2 ∧ Aside0 (spec_StateFrom.l0 kq a0 x6_2 l1 (l1.length : Int) x34_2 = some (r1, r2)) ∧ Aside0 (kq ≤ kj2) ∧ Aside0 (Kd.R (Kd.int .u64) 40 w' w.heap.size (fun _ => True) v612 x6_2) ∧ Aside0 (Below w.heap.size w w'))
       case atStart => exact ⟨(y611), (0), qS, H', ⟨Nat.le_refl _⟩, ⟨qR HO613.out⟩, ⟨qB⟩⟩
       case round =>
        clear H'
        try clear c1
        try clear c2
        try clear p2
        try clear c3
        try clear c5
        try clear c6
        try clear c6b0
        try clear c6b1
        try clear p6
        try clear c7
        try clear c7b0
        try clear c7b1
        try clear c9
        try clear c10
        try clear c10b0
        try clear c10b1
        try clear c12
        try clear c12b0
        try clear c12b1
        try clear c13
        try clear c13b0
        try clear c13b1
        try clear p2
        try clear p6
        obtain ⟨x6_2, x34_2, rfl, HA, HK2, HO_6, HB⟩ := hrel
        cases gk with
        | zero => exact absurd HA.out (by simp [spec_StateFrom.l0])
        | succ k2 =>
         have H := HA.out
         clear HA
         simp only [spec_StateFrom.l0] at H
         by_cases c16 : x34_2 < (l1.length : Int)
         ·rw [if_pos c16] at H
          have c16b0 : decide (x34_2 < (l1.length : Int)) = true := decide_eq_true c16
          clear c16
          by_cases c17 : 0 ≤ x34_2
          ·rw [if_pos c17] at H
           have c17b0 : decide (0 ≤ x34_2) = true := decide_eq_true c17
           clear c17
           by_cases c18 : x34_2 < (l1.length : Int)
           ·rw [if_pos c18] at H
            have c18b0 : decide (x34_2 < (l1.length : Int)) = true := decide_eq_true c18
            clear c18
            by_cases c19 : a0 = 0
            ·rw [if_pos c19] at H
             exact absurd H (by simp)
            ·rw [if_neg c19] at H
             have c19b0 : (a0 == 0) = false := beq_eq_false_iff_ne.mpr c19
             have c19b1 : (a0 != 0) = true := bne_iff_ne.mpr c19
             obtain ⟨ji20, hji20⟩ : ∃ j_ : Int, (wrap64 (Int.tdiv x34_2 a0)) = j_ := ⟨_, rfl⟩
             replace H : (if 0 ≤ (ji20) then (if (ji20) < (x6_2.length : Int) then ((spec_l2Bool.f (rdOf false l1 x34_2)).bind fun t616 => (if 0 ≤ (IntKind.u64.wrap (Int.tmod x34_2 a0)) then (spec_StateFrom.l0 k2 a0 (x6_2.set ((ji20) : Int).toNat (Go.bits .or .u64 (rd x6_2 (ji20)) (shl .u64 t616 (IntKind.u64.wrap (Int.tmod x34_2 a0))))) l1 (l1.length : Int) (wrap64 (x34_2 + 1))) else (none))) else (none)) else (none)) = some (r1, r2) := by first | (rw [hji20] at H; exact H) | (simp only [hji20] at H ⊢; exact H)
             have hji20w : (IntKind.i64.wrap (Int.tdiv x34_2 a0)) = ji20 := (i64_w _).trans hji20
             by_cases c21 : 0 ≤ (ji20)
             ·rw [if_pos c21] at H
              have c21b0 : decide (0 ≤ (ji20)) = true := decide_eq_true c21
              clear c21
              by_cases c22 : (ji20) < (x6_2.length : Int)
              ·rw [if_pos c22] at H
               have c22b0 : decide ((ji20) < (x6_2.length : Int)) = true := decide_eq_true c22
               clear c22
               replace H := Option.bind_eq_some_iff.mp H
               obtain ⟨t616, A230, H⟩ := H
               replace H : (if 0 ≤ (IntKind.u64.wrap (Int.tmod x34_2 a0)) then (spec_StateFrom.l0 k2 a0 (x6_2.set ((ji20) : Int).toNat (Go.bits .or .u64 (rd x6_2 (ji20)) (shl .u64 t616 (IntKind.u64.wrap (Int.tmod x34_2 a0))))) l1 (l1.length : Int) (wrap64 (x34_2 + 1))) else (none)) = some (r1, r2) := H
               have A23 := Aside0.mk A230
               clear A230
               obtain ⟨ji24, hji24⟩ : ∃ j_ : Int, (IntKind.u64.wrap (Int.tmod x34_2 a0)) = j_ := ⟨_, rfl⟩
               replace H : (if 0 ≤ (ji24) then (spec_StateFrom.l0 k2 a0 (x6_2.set ((ji20) : Int).toNat (Go.bits .or .u64 (rd x6_2 (ji20)) (shl .u64 t616 (ji24)))) l1 (l1.length : Int) (wrap64 (x34_2 + 1))) else (none)) = some (r1, r2) := by first | (rw [hji24] at H; exact H) | (simp only [hji24] at H ⊢; exact H)
               (try rw [hji24] at A23)
               by_cases c25 : 0 ≤ (ji24)
               ·rw [if_pos c25] at H
                have c25b0 := eq_true c25
                have c25b1 : decide (0 ≤ (ji24)) = true := decide_eq_true c25
                clear c25
                obtain ⟨ji26, hji26⟩ : ∃ j_ : Int, (shl .u64 t616 (ji24)) = j_ := ⟨_, rfl⟩
                replace H : (spec_StateFrom.l0 k2 a0 (x6_2.set ((ji20) : Int).toNat (Go.bits .or .u64 (rd x6_2 (ji20)) (ji26))) l1 (l1.length : Int) (wrap64 (x34_2 + 1))) = some (r1, r2) := by first | (rw [hji26] at H; exact H) | (simp only [hji26] at H ⊢; exact H)
                (try rw [hji26] at A23)
                have hji26_ : (IntKind.u64.wrap (t616 * 2 ^ min (ji24).toNat 64)) = ji26 := hji26
                have hji26z : (ji24) ≤ 64 → (IntKind.u64.wrap (t616 * 2 ^ (ji24).toNat)) = ji26 := shl_small hji26
                obtain ⟨y617, hy617⟩ : ∃ y_ : List Int, y_ = (x6_2.set ((ji20) : Int).toNat (Go.bits .or .u64 (rd x6_2 (ji20)) (ji26))) := ⟨_, rfl⟩
                replace H : (spec_StateFrom.l0 k2 a0 y617 l1 (l1.length : Int) (wrap64 (x34_2 + 1))) = some (r1, r2) := qY hy617 H
                have Ny617 := Aside0.mk hy617
                clear hy617
                have H' := Aside0.mk H
                clear H
                have p614 : 0 ≤ (x34_2 : Int) := qD
                have q614 : x34_2 < (l1.length : Int) := qD
                obtain ⟨ad614, e614, hx614_0⟩ := Kd.at_bool HR1.out x34_2 p614 q614
                cases e614
                replace hx614_0 := (HB.out.cell (World.block_lt_of_cell? w _ hx614_0)).trans hx614_0
                replace p614 := eq_true p614
                replace q614 := eq_true q614
                try go_wp2
                have n0_ := Aside0.mk (Kd.R_drew HO_6.out)
                have n1_ := Aside0.mk (below_drew1 HB.out)
                clear HO_6
                clear HB
                have HO_6 := n0_
                have HB := n1_
                clear n0_ n1_
                obtain ⟨Ao29, co29, eo29⟩ := Kd.R_slice HO_6.out
                (first | subst eo29 | (injection eo29 with f1_ f2_ f3_; have f4_ := f1_.symm; have f5_ := f3_.symm; clear f1_ f2_ f3_; subst f4_; subst f5_))
                have p615 : 0 ≤ ((ji20) : Int) := qD
                have q615 : (ji20) < (x6_2.length : Int) := qD
                obtain ⟨ad615, e615, hx615_0⟩ := Kd.at_int (Kd.R_reads' HO_6.out).2.2 (ji20) p615 q615
                cases e615
                replace p615 := eq_true p615
                replace q615 := eq_true q615
                refine start_ (n := 16) (S := fun w' => w'.cell? (ad615.add ((ji20)).toNat) = some (.int .u64 (rd x6_2 (ji20)))) (ds := [15]) #[false, false, false, false, false, false, false, false, false, false, false, false, false, false, false, false] (by kernel_rfl) rfl rfl (hx615_0) (fun hHeld => ?_); refine with_tabW spec_StateFrom.tab7 spec_StateFrom.bits7 (fun HT_ HW_ => ?_)
                generalize wr.drew = w28 at HO_6 HB hx615_0 hHeld ⊢
                refine pure_ (i := 0) (N := some 39) (v := ?_) (a' := ?_) #[true, false, false, false, false, false, false, false, false, false, false, false, false, false, false, false] rfl rfl (any_of HT_.out (by kernel_rfl)) (fun _ _ _ h => h) (Or.inl ⟨by rfl, ?_⟩) ?_ ?_
                rotate_left
                ·intro w'
                 go_simp
                 with_reducible rfl
                rotate_left
                ·simp only [Act.put, List.setIfInBounds_toArray, List.set_cons_zero, List.set_cons_succ, i64_w, i32_w]
                 rfl
                refine pure_ (i := 1) (N := some 40) (v := ?_) (a' := ?_) #[true, true, false, false, false, false, false, false, false, false, false, false, false, false, false, false] rfl rfl (any_of HT_.out (by kernel_rfl)) (fun _ _ _ h => h) (Or.inl ⟨by rfl, ?_⟩) ?_ ?_
                rotate_left
                ·intro w'
                 go_simp
                 with_reducible rfl
                rotate_left
                ·simp only [Act.put, List.setIfInBounds_toArray, List.set_cons_zero, List.set_cons_succ, i64_w, i32_w]
                 rfl
                refine pure_ (i := 2) (N := some 41) (v := ?_) (a' := ?_) #[true, true, true, false, false, false, false, false, false, false, false, false, false, false, false, false] rfl rfl (any_of HT_.out (by kernel_rfl)) (fun _ _ _ h => h) (Or.inl ⟨by rfl, ?_⟩) ?_ ?_
                rotate_left
                ·intro w'
                 go_simp
                 with_reducible rfl
                rotate_left
                ·simp only [Act.put, List.setIfInBounds_toArray, List.set_cons_zero, List.set_cons_succ, i64_w, i32_w]
                 rfl
                refine pure_ (i := 3) (N := some 42) (v := ?_) (a' := ?_) #[true, true, true, true, false, false, false, false, false, false, false, false, false, false, false, false] rfl rfl (any_of HT_.out (by kernel_rfl)) (fun _ _ _ h => h) (Or.inl ⟨by rfl, ?_⟩) ?_ ?_
                rotate_left
                ·intro w'
                 go_simp
                 with_reducible rfl
                rotate_left
                ·simp only [Act.put, List.setIfInBounds_toArray, List.set_cons_zero, List.set_cons_succ, i64_w, i32_w]
                 rfl
                refine pure_ (i := 4) (N := some 43) (v := ?_) (a' := ?_) #[true, true, true, true, true, false, false, false, false, false, false, false, false, false, false, false] rfl rfl (any_of HT_.out (by kernel_rfl)) (fun _ _ _ h => h) (Or.inl ⟨by rfl, ?_⟩) ?_ ?_
                rotate_left
                ·intro w'
                 go_simp
                 with_reducible rfl
                rotate_left
                ·simp only [Act.put, List.setIfInBounds_toArray, List.set_cons_zero, List.set_cons_succ, i64_w, i32_w]
                 rfl
                refine pure_ (i := 6) (N := some 45) (v := ?_) (a' := ?_) #[true, true, true, true, true, false, true, false, false, false, false, false, false, false, false, false] rfl rfl (any_of HT_.out (by kernel_rfl)) (fun _ _ _ h => h) (Or.inl ⟨by rfl, ?_⟩) ?_ ?_
                rotate_left
                ·intro w'
                 go_simp
                 with_reducible rfl
                rotate_left
                ·simp only [Act.put, List.setIfInBounds_toArray, List.set_cons_zero, List.set_cons_succ, i64_w, i32_w]
                 rfl
                refine pure_ (i := 8) (N := some 47) (v := ?_) (a' := ?_) #[true, true, true, true, true, false, true, false, true, false, false, false, false, false, false, false] rfl rfl (any_of HT_.out (by kernel_rfl)) (fun _ _ _ h => h) (Or.inl ⟨by rfl, ?_⟩) ?_ ?_
                rotate_left
                ·intro w'
                 go_simp
                 with_reducible rfl
                rotate_left
                ·simp only [Act.put, List.setIfInBounds_toArray, List.set_cons_zero, List.set_cons_succ, i64_w, i32_w]
                 rfl
                refine pure_ (i := 9) (N := some 48) (v := ?_) (a' := ?_) #[true, true, true, true, true, false, true, false, true, true, false, false, false, false, false, false] rfl rfl (any_of HT_.out (by kernel_rfl)) (fun _ _ _ h => h) (Or.inl ⟨by rfl, ?_⟩) ?_ ?_
                rotate_left
                ·intro w'
                 go_simp
                 with_reducible rfl
                rotate_left
                ·simp only [Act.put, List.setIfInBounds_toArray, List.set_cons_zero, List.set_cons_succ, i64_w, i32_w]
                 rfl
                refine pure_ (i := 10) (N := some 49) (v := ?_) (a' := ?_) #[true, true, true, true, true, false, true, false, true, true, true, false, false, false, false, false] rfl rfl (any_of HT_.out (by kernel_rfl)) (fun _ _ _ h => h) (Or.inl ⟨by rfl, ?_⟩) ?_ ?_
                rotate_left
                ·intro w'
                 go_simp
                 with_reducible rfl
                rotate_left
                ·simp only [Act.put, List.setIfInBounds_toArray, List.set_cons_zero, List.set_cons_succ, i64_w, i32_w]
                 rfl
                refine pure_ (i := 11) (N := some 50) (v := ?_) (a' := ?_) #[true, true, true, true, true, false, true, false, true, true, true, true, false, false, false, false] rfl rfl (any_of HT_.out (by kernel_rfl)) (fun _ _ _ h => h) (Or.inl ⟨by rfl, ?_⟩) ?_ ?_
                rotate_left
                ·intro w'
                 go_simp
                 with_reducible rfl
                rotate_left
                ·simp only [Act.put, List.setIfInBounds_toArray, List.set_cons_zero, List.set_cons_succ, i64_w, i32_w]
                 rfl
                refine take_ (i := 5) (N := some 44) (v := ?_) (a' := ?_) #[true, true, true, true, true, true, true, false, true, true, true, true, false, false, false, false] rfl rfl (take_ofW HT_.out HW_.out (by kernel_rfl)) (fun _ _ _ h => h) (Or.inl ⟨by rfl, ?_⟩) hHeld ?_ ?_
                rotate_left
                ·intro w' s0
                 go_simp
                 with_reducible rfl
                rotate_left
                ·simp only [Act.put, List.setIfInBounds_toArray, List.set_cons_zero, List.set_cons_succ, i64_w, i32_w]
                 rfl
                refine one_ (i := 7) (N := some 46) #[true, true, true, true, true, true, true, true, true, true, true, true, false, false, false, false] rfl rfl (one_of HT_.out (by kernel_rfl)) (by decide) (fun K hK => ?_)
                refine goes_ Try.func53 (by kernel_rfl) rfl #[.bool (rdOf false l1 x34_2)] (by rfl) rfl rfl qG ?_
                with_reducible refine (spec_l2Bool.calls (rdOf false l1 x34_2) t616 _ A23.out).mono ?_
                rintro e w' ⟨rfl, ⟨nd, rfl⟩⟩
                refine ⟨_, rfl, ?_⟩
                have p27 : 0 ≤ ((ji20) : Int) := qD
                have q27 : ((ji20) : Int) < ((x6_2.length : Int) : Int) := qD
                obtain ⟨go27, co27, eo27, gb27, gl27, cl27, HG27⟩ := Kd.R_form HO_6.out (by omega)
                (first | cases eo27 | (injection eo27 with ea_ en_ ec_; (first | subst ea_ | (injection ea_ with ea_; subst ea_)); subst ec_; clear en_))
                have GB27 := Aside0.mk gb27
                have GG27 := Aside0.mk HG27
                clear gb27 gl27 HG27
                (first | simp only [add_plain] at hx615_0 | skip)
                obtain ⟨hx27_0, hf27_0⟩ := Kd.R_celln 0 HO_6.out ((ji20) : Int) p27 q27
                replace p27 := eq_true p27
                replace q27 := eq_true q27
                have HP30 := Kd.R_putn HO_6.out ((ji20) : Int) (Go.bits .or .u64 (rd x6_2 (ji20)) (ji26))
                rw [← Ny617.out] at HP30
                have HQ30 := Aside0.mk HP30
                clear HP30
                refine hK.out _ _ (hHeld) (fun hHeld => ?_)
                clear hK K
                refine norm_ (a' := ?_) ?_ ?_
                rotate_left
                ·show Act.put _ (some 46) _ = _
                 simp only [Act.put, List.setIfInBounds_toArray, List.set_cons_zero, List.set_cons_succ, i64_w, i32_w]
                 rfl
                refine pure_ (i := 12) (N := some 51) (v := ?_) (a' := ?_) #[true, true, true, true, true, true, true, true, true, true, true, true, true, false, false, false] rfl rfl (any_of HT_.out (by kernel_rfl)) (fun _ _ _ h => h) (Or.inl ⟨by rfl, ?_⟩) ?_ ?_
                rotate_left
                ·intro w'
                 go_simp
                 with_reducible rfl
                rotate_left
                ·simp only [Act.put, List.setIfInBounds_toArray, List.set_cons_zero, List.set_cons_succ, i64_w, i32_w]
                 rfl
                refine pure_ (i := 13) (N := some 52) (v := ?_) (a' := ?_) #[true, true, true, true, true, true, true, true, true, true, true, true, true, true, false, false] rfl rfl (any_of HT_.out (by kernel_rfl)) (fun _ _ _ h => h) (Or.inl ⟨by rfl, ?_⟩) ?_ ?_
                rotate_left
                ·intro w'
                 go_simp
                 with_reducible rfl
                rotate_left
                ·simp only [Act.put, List.setIfInBounds_toArray, List.set_cons_zero, List.set_cons_succ, i64_w, i32_w]
                 rfl
                refine pure_ (i := 14) (N := some 53) (v := ?_) (a' := ?_) #[true, true, true, true, true, true, true, true, true, true, true, true, true, true, true, false] rfl rfl (any_of HT_.out (by kernel_rfl)) (fun _ _ _ h => h) (Or.inl ⟨by rfl, ?_⟩) ?_ ?_
                rotate_left
                ·intro w'
                 go_simp
                 with_reducible rfl
                rotate_left
                ·simp only [Act.put, List.setIfInBounds_toArray, List.set_cons_zero, List.set_cons_succ, i64_w, i32_w]
                 rfl
                refine last_ (i := 15) (N := none) #[true, true, true, true, true, true, true, true, true, true, true, true, true, true, true, true] rfl rfl (one_of HT_.out (by kernel_rfl)) (by decide) (fun K hK => ?_)
                refine skip_ (w1 := ?_) (by rfl) rfl ?_ ?_
                rotate_left
                ·go_simp
                 rfl
                refine hK.out _ _ ?_
                clear hK K
                refine done_ (done_of HT_.out (by kernel_rfl)) ?_
                try go_wp2
                go_roundg k2
                case measure => have := HJ2.out; have := HK2.out; omega
                case rel => exact ⟨(y617), (wrap64 (x34_2 + 1)), qS, H', ⟨by have := HJ2.out; have := HK2.out; omega⟩, ⟨qR HQ30.out⟩, ⟨by repeat (first | (with_reducible first | exact HB.out | apply below_alloc | apply pw_below_drewN | apply below_drew1 | refine below_set ?_ GB27.out) | exact HB.out)⟩⟩
               ·rw [if_neg c25] at H
                exact absurd H (by simp)
              ·rw [if_neg c22] at H
               exact absurd H (by simp)
             ·rw [if_neg c21] at H
              exact absurd H (by simp)
           ·rw [if_neg c18] at H
            exact absurd H (by simp)
          ·rw [if_neg c17] at H
           exact absurd H (by simp)
         ·rw [if_neg c16] at H
          have c16b0 : decide (x34_2 < (l1.length : Int)) = false := decide_eq_false c16
          clear c16
          simp only [Option.some.injEq, Prod.mk.injEq] at H
          obtain ⟨rfl, rfl⟩ := H
          go_wp2
          go_ret2
          exact ⟨_, by first | rfl | (simp [errW_none, errW_some] <;> rfl) | (simp only [← hji11]; first | rfl | (simp [errW_none, errW_some] <;> rfl)) | (simp [*, errW_none, errW_some] <;> rfl), qR HO_6.out, qB⟩
      ·rw [if_neg c13] at H
       exact absurd H (by simp)
     ·rw [if_neg c12] at H
      exact absurd H (by simp)


/-! ### laws_toBoolS: function 30 -/
def laws_toBoolS.l0 : Nat → List Bool → List Bool → Int → Option (List Bool)
 | 0, _, _, _ => none
 | k + 1, x0, x3, x4 => if x4 < (x0.length : Int) then (if 0 ≤ x4 then (if x4 < (x3.length : Int) then (laws_toBoolS.l0 k x0 (x3.set (x4 : Int).toNat (rdOf false x0 x4)) (wrap64 (x4 + 1))) else (none)) else (none)) else (some x3)
def laws_toBoolS.f (k : Nat) (l0 : List Bool) : Option (List Bool) := if 0 ≤ (l0.length : Int) then (if ((l0.length : Int) : Int).toNat ≤ 281474976710656 then (laws_toBoolS.l0 k l0 (List.replicate ((l0.length : Int) : Int).toNat false) 0) else (none)) else (none)
theorem laws_toBoolS.mono_l : ∀ k, (∀ y0 y1 y2, LeO (laws_toBoolS.l0 k y0 y1 y2) (laws_toBoolS.l0 (k + 1) y0 y1 y2))
 | 0 => fun _ _ _ r h => by simp [laws_toBoolS.l0] at h
 | k + 1 => by
  have ih0 := laws_toBoolS.mono_l k
  ·intro y0 y1 y2
   unfold laws_toBoolS.l0
   repeat' first
   | (with_reducible exact ih0 _ _ _)
   | (with_reducible first | exact LeO.refl _ | exact LeO.none _ | refine LeO.ite ?_ ?_ | refine LeO.bind ?_ (fun _ => ?_))
   | exact ih0 _ _ _
   | exact LeO.none _ | refine LeO.ite ?_ ?_ | refine LeO.bind ?_ (fun _ => ?_)
theorem laws_toBoolS.mono : ∀ a0 k, LeO (laws_toBoolS.f k a0) (laws_toBoolS.f (k + 1) a0) := by
 intro a0 k
 have ih0 := laws_toBoolS.mono_l k
 unfold laws_toBoolS.f
 repeat' first
   | (with_reducible exact ih0 _ _ _)
   | (with_reducible first | exact LeO.refl _ | exact LeO.none _ | refine LeO.ite ?_ ?_ | refine LeO.bind ?_ (fun _ => ?_))
   | exact ih0 _ _ _
   | exact LeO.none _ | refine LeO.ite ?_ ?_ | refine LeO.bind ?_ (fun _ => ?_)
set_option maxHeartbeats 8000000 in
set_option maxRecDepth 100000 in
theorem laws_toBoolS.calls (k : Nat) (A0 : Option Addr) (c0 : Nat) (l0 : List Bool) (r : List Bool) (w : World) (hr0 : Kd.C Kd.bool w A0 l0.length l0) (hc0 : l0.length ≤ c0) (h : laws_toBoolS.f k l0 = some r) :
  Calls Try.prog 30 #[.slice A0 l0.length c0] w fun e w' => ∃ v0_ : Value, e = .returned (v0_) ∧ Kd.R Kd.bool 4 w' w.heap.size (fun _ => True) v0_ r ∧ Below w.heap.size w w' := by
 have HR0 := Aside0.mk hr0
 have HC0 := Aside0.mk hc0
 clear hr0 hc0
 have HB := Aside0.mk (Below.refl w.heap.size w)
 have H : (if 0 ≤ (l0.length : Int) then (if ((l0.length : Int) : Int).toNat ≤ 281474976710656 then (laws_toBoolS.l0 k l0 (List.replicate ((l0.length : Int) : Int).toNat false) 0) else (none)) else (none)) = some r := h
 clear h
 by_cases c2 : 0 ≤ (l0.length : Int)
 ·rw [if_pos c2] at H
  have c2b0 := eq_true c2
  have c2b1 : decide (0 ≤ (l0.length : Int)) = true := decide_eq_true c2
  clear c2
  by_cases c3 : ((l0.length : Int) : Int).toNat ≤ 281474976710656
  ·rw [if_pos c3] at H
   have c3b0 := eq_true c3
   have c3b1 : decide (((l0.length : Int) : Int).toNat ≤ 281474976710656) = true := decide_eq_true c3
   clear c3
   obtain ⟨y618, hy618⟩ : ∃ y_ : List Bool, y_ = (List.replicate ((l0.length : Int) : Int).toNat false) := ⟨_, rfl⟩
   replace H : (laws_toBoolS.l0 k l0 y618 0) = some r := qY hy618 H
   have Ny618 := Aside0.mk hy618
   clear hy618
   have H' := Aside0.mk H
   clear H
   go_enter Try.func30, Try.ntmps30
   go_wp2_with (first | ((with_reducible refine gate_dst (N := 7) rfl ?_); refine Kd.R_make Kd.bool _ 4 rfl (N := 7) rfl 46 _ _ rfl (l0.length : Int) rfl rfl Try.underlying46 (.bool false) 1 info4 rfl (by decide) (by omega) false (ok := fun _ => True) (okp := fun _ => True) rfl (fun _ hk => hk) trivial qD (Nat.le_trans (Nat.mul_le_mul_right _ (qD : (l0.length : Int).toNat ≤ 281474976710656)) (by omega)) (Below.refl _ _) (Nat.le_refl _) ?_; intro v619 w4 ho5 hb hg_ hnew_; clear hg_ hnew_; (first | rw [← Ny618.out] at ho5 | (simp only [Int.reduceToNat] at ho5; rw [← Ny618.out] at ho5)); have n0_ := Aside0.mk (Kd.R_lower ho5 (below_size (qB))); have n1_ := Aside0.mk (below_step (qB) hb); clear HB; have HO620 := n0_; have HB := n1_; clear n0_ n1_; clear hb ho5))
   go_loopg [4] k (fun kq v4 w' => ∃ (x3_1 : List Bool) (x4_1 : Int), v4 = .int .i64 x4_1 ∧ Aside0 (laws_toBoolS.l0 kq l0 x3_1 x4_1 = some r) ∧ Aside0 (kq ≤ k) ∧ Aside0 (Kd.R Kd.bool 4 w' w.heap.size (fun _ => True) v619 x3_1) ∧ Aside0 (Below w.heap.size w w'))
   case atStart => exact ⟨(y618), (0), qS, H', ⟨Nat.le_refl _⟩, ⟨qR HO620.out⟩, ⟨qB⟩⟩
   case round =>
    clear H'
    try clear c2
    try clear c2b0
    try clear c2b1
    try clear p2
    try clear c3
    try clear c3b0
    try clear c3b1
    obtain ⟨x3_1, x4_1, rfl, HA, HK1, HO_3, HB⟩ := hrel
    cases gk with
    | zero => exact absurd HA.out (by simp [laws_toBoolS.l0])
    | succ k1 =>
     have H := HA.out
     clear HA
     simp only [laws_toBoolS.l0] at H
     by_cases c6 : x4_1 < (l0.length : Int)
     ·rw [if_pos c6] at H
      have c6b0 : decide (x4_1 < (l0.length : Int)) = true := decide_eq_true c6
      clear c6
      by_cases c7 : 0 ≤ x4_1
      ·rw [if_pos c7] at H
       have c7b0 : decide (0 ≤ x4_1) = true := decide_eq_true c7
       clear c7
       by_cases c8 : x4_1 < (x3_1.length : Int)
       ·rw [if_pos c8] at H
        have c8b0 : decide (x4_1 < (x3_1.length : Int)) = true := decide_eq_true c8
        clear c8
        obtain ⟨y622, hy622⟩ : ∃ y_ : List Bool, y_ = (x3_1.set (x4_1 : Int).toNat (rdOf false l0 x4_1)) := ⟨_, rfl⟩
        replace H : (laws_toBoolS.l0 k1 l0 y622 (wrap64 (x4_1 + 1))) = some r := qY hy622 H
        have Ny622 := Aside0.mk hy622
        clear hy622
        have H' := Aside0.mk H
        clear H
        have p621 : 0 ≤ (x4_1 : Int) := qD
        have q621 : x4_1 < (l0.length : Int) := qD
        obtain ⟨ad621, e621, hx621_0⟩ := Kd.at_bool HR0.out x4_1 p621 q621
        cases e621
        replace hx621_0 := (HB.out.cell (World.block_lt_of_cell? w _ hx621_0)).trans hx621_0
        replace p621 := eq_true p621
        replace q621 := eq_true q621
        have p9 : 0 ≤ (x4_1 : Int) := qD
        have q9 : (x4_1 : Int) < ((x3_1.length : Int) : Int) := qD
        obtain ⟨go9, co9, eo9, gb9, gl9, cl9, HG9⟩ := Kd.R_form HO_3.out (by omega)
        (first | cases eo9 | (injection eo9 with ea_ en_ ec_; (first | subst ea_ | (injection ea_ with ea_; subst ea_)); subst ec_; clear en_))
        have GB9 := Aside0.mk gb9
        have GG9 := Aside0.mk HG9
        clear gb9 gl9 HG9
        obtain ⟨hx9_0, hf9_0⟩ := Kd.R_celln false HO_3.out (x4_1 : Int) p9 q9
        replace p9 := eq_true p9
        replace q9 := eq_true q9
        have HP10 := Kd.R_putg HO_3.out (x4_1 : Int) (rdOf false l0 x4_1)
        go_wp2_with (first | ((with_reducible refine gate_store (t := 4) (p := 20) rfl ?_); refine store_event (t := 4) (p := 20) (v := ?vo_w11) (w1 := (wr.setCell ⟨go9, (x4_1 : Int).toNat, none⟩ (.bool (rdOf false l0 x4_1)))) ?hg ?ho ?hn ?hr ?_; (case ho => rfl); (case hg => rfl); (case hn => rfl); (case hr => first | (go_simp; done) | (go_simp; rfl)); intro w11 hw; have hg : wr.grownBy w11 (some go9) := (by rw [hw]; exact HP10.2); have hp_ : Kd.R Kd.bool 4 w11 w.heap.size (fun _ => True) (.slice (some ⟨go9, 0, none⟩) x3_1.length co9) y622 := (by rw [hw, Ny622.out]; exact HP10.1); clear HP10; have n0_ := Aside0.mk (hp_); have n1_ := Aside0.mk ((by rw [hw]; exact below_set (HB.out) GB9.out : Below w.heap.size w w11)); clear HO_3; clear HB; have HO_3 := n0_; have HB := n1_; clear n0_ n1_; clear hg hw hp_))
        go_roundg k1
        case measure => have := HK1.out; omega
        case rel => exact ⟨(y622), (wrap64 (x4_1 + 1)), qS, H', ⟨by have := HK1.out; omega⟩, ⟨qR HO_3.out⟩, ⟨qB⟩⟩
       ·rw [if_neg c8] at H
        exact absurd H (by simp)
      ·rw [if_neg c7] at H
       exact absurd H (by simp)
     ·rw [if_neg c6] at H
      have c6b0 : decide (x4_1 < (l0.length : Int)) = false := decide_eq_false c6
      clear c6
      obtain rfl := Option.some.inj H
      go_wp2
      go_ret
      exact ⟨_, qE, qR HO_3.out, qB⟩
  ·rw [if_neg c3] at H
   exact absurd H (by simp)
 ·rw [if_neg c2] at H
  exact absurd H (by simp)

-- NOT PRINTED: function 90 (slices_Chunk_bool_1)

-- NOT PRINTED: function 59 (slices_Chunk_bool)


-- HAND
/-! ### roundregion.lean -/
-- IMPORT Derived.RangeFuncNested
-- IMPORT Derived.RangeFuncCalls
-- IMPORT Derived.RangeFuncLeaves
-- IMPORT Derived.OwnWalkIn
-- IMPORT Derived.OrdersIn
/-! A region that draws its order, within a round of a range over a function: what is shown of it outside holds there, no deferred call being among its operations. -/
theorem rg_op {l n : Nat} {P : Program} {o : Oper} {a : Act} {w : World} {K : Act → World → Prop} {Q : Exit → Act → World → Prop} (hd : ∀ c, o.op ≠ Op.defer c) (h : Oper.wp P o a w K Q) : Oper.wpIn (Fence.wide.inRound l) n P o a w K Q := by
 refine ⟨fun _ _ => trivial, ?_⟩
 rw [show (Fence.wide.inRound l).round = some l from rfl, Oper.semAt_eq (some l) _ o hd]
 unfold Oper.wp at h
 generalize (execOp a.eval o).run P w = r at h ⊢
 cases r with
 | ok x w' =>
  cases x with
  | value v => exact h
  | skip => exact h
  | defer d => exact h
  | enter f args => exact ⟨fun h0 => (by cases h0), CallsIn.inRound l (callsIn_wide.2 h)⟩
  | row row args =>
   refine ⟨fun h0 => (by cases h0), fun c cs _ => ?_⟩
   obtain ⟨v, w2, r, s⟩ := h c cs
   exact ⟨v, w2, r, stepsIn_wide.2 s⟩
  | _ => exact h.elim
 | halt x w' =>
  cases x with
  | panic v => exact h
  | _ => exact h.elim
theorem rg_any {l n : Nat} {P : Program} {md : Region.Mode} {ops : Array Oper} {Q : Exit → Act → World → Prop} (hd : ∀ (i : Nat) (o : Oper), ops[i]? = some o → ∀ c, o.op ≠ Op.defer c) (hQ : ¬ LetsOut Q) : ∀ (fuel : Nat) (lst : Array Bool) (a : Act) (w : World),
  wpAny P md ops Q fuel lst a w → wpAnyIn (Fence.wide.inRound l) n P md ops Q fuel lst a w
 | 0, _, _, _, h => h
 | fuel + 1, lst, a, w, h => by
  refine ⟨h.1, fun i hi => ?_⟩
  have h2 := h.2 i hi
  unfold wpOp at h2
  unfold wpOpIn
  cases ho : ops[i]? with
  | none =>
   rw [ho] at h2
   exact rg_any hd hQ fuel _ _ _ h2
  | some o =>
   rw [ho] at h2
   dsimp only at h2 ⊢
   by_cases hw : Region.wanted o (yielded ops a.tmps) = true
   ·rw [if_pos hw] at h2 ⊢
    rcases h2 with h2 | ⟨_, h2⟩
    ·exact rg_op (hd i o ho) (Oper.wp_mono (fun a w h => rg_any hd hQ fuel _ _ _ h) h2)
    ·exact absurd h2 hQ
   ·rw [if_neg hw] at h2 ⊢
    exact ⟨fun _ _ => trivial, rg_any hd hQ fuel _ _ _ h2⟩
def rgPlain (ops : Array Oper) : Bool := ops.all fun o => match o.op with | .defer _ => false | _ => true
theorem rgPlain_is {ops : Array Oper} (h : rgPlain ops = true) : ∀ (i : Nat) (o : Oper), ops[i]? = some o → ∀ c, o.op ≠ Op.defer c := by
 intro i o ho c hc
 obtain ⟨hi, he⟩ := Array.getElem?_eq_some_iff.1 ho
 unfold rgPlain at h
 have h1 := (Array.all_eq_true.1 h) i hi
 rw [he, hc] at h1
 cases h1
theorem rg_start {l nf : Nat} {P : Program} {ops : Array Oper} {Q : Exit → Act → World → Prop} {S : World → Prop} {ds : List Nat} {id n : Nat} {a : Act} {w : World} (lst : Array Bool) (hm : P.follows .mixedOrders = true) (hn : ops.size = n) (hl : Array.replicate n false = lst) (hp : rgPlain ops = true) (hQ : ¬ LetsOut Q) (hS : S w.drew)
  (h : S w.drew → wpAnyLast P .any ops Q S ds n lst a w.drew) : (Code.region id ops true).wpIn (Fence.wide.inRound l) nf P Q a w := by
 subst hn
 subst hl
 exact wpIn_region_any hm (rg_any (rgPlain_is hp) hQ _ _ _ _ (wpAny_of_last _ _ _ _ (h hS)))


-- HAND
/-! ### chunk.lean -/
-- IMPORT Derived.RangeFuncNested
-- IMPORT Derived.RangeFuncBound
-- IMPORT Derived.RangeFuncCalls
-- IMPORT Derived.RangeFuncLeaves
-- IMPORT Derived.RangeFuncBox
-- IMPORT Derived.Shelf.Abstract
-- IMPORT Derived.Shelf.RegionOpen
-- IMPORT Derived.OwnWalkIn
-- IMPORT Derived.TacticsInMore
-- IMPORT Derived.LoopNIn
-- IMPORT Derived.LoopIn
attribute [local go_sem] Oper.semAt_some
/-- What a round keeps: all below N but the blocks of P. -/
def chKp (N : Nat) (P : Nat → Prop) (W W' : World) : Prop := W.heap.size ≤ W'.heap.size ∧ ∀ i, i < N → ¬ P i → W'.heap[i]? = W.heap[i]?
theorem chKp.refl (N : Nat) (P : Nat → Prop) (W : World) : chKp N P W W := ⟨Nat.le_refl _, fun _ _ _ => rfl⟩
theorem chKp.trans {N : Nat} {P : Nat → Prop} {A B C : World} (h : chKp N P A B) (k : chKp N P B C) : chKp N P A C := ⟨Nat.le_trans h.1 k.1, fun i hi hg => (k.2 i hi hg).trans (h.2 i hi hg)⟩
theorem chKp.cell {N : Nat} {P : Nat → Prop} {A B : World} (h : chKp N P A B) {p : Addr} (hp : p.block < N) (hg : ¬ P p.block) : B.cell? p = A.cell? p := by
 simp [World.cell?, h.2 _ hp hg]
/-- A chunk: where it lies, its bits, its word. -/
abbrev ChX (W0 : World) (wd : Nat) : Type := { x : Addr × List Bool × Int // Kd.C Kd.bool W0 (some x.1) x.2.1.length x.2.1 ∧ x.2.1.length = wd ∧ impl_wordOf.f 10 x.2.1 = some x.2.2 }
def chEnc {W0 : World} {wd : Nat} (x : ChX W0 wd) : Array Value := #[.slice (some x.1.1) x.1.2.1.length x.1.2.1.length]
set_option maxRecDepth 100000 in
set_option maxHeartbeats 4000000 in
/-- The iterator that slices.Chunk hands back, where the chunks are all of one length. -/
theorem ch_iter (n : Nat) (hn : 1 ≤ n) (l Bs Bn N : Nat) (P : Nat → Prop) (W0 : World) (hN : W0.heap.size ≤ N) (hP : ∀ i, P i → W0.heap.size ≤ i) (ad : Addr) (cap len wd m : Nat) (hm : len = m * wd) (hc : len ≤ cap) (hw1 : 1 ≤ wd) (hw4 : wd ≤ 4) (hbig : len ≤ 1000000)
  (xs : List (ChX W0 wd)) (hxs : xs.length = m) (hxa : ∀ j (h : j < xs.length), (xs[j]).1.1 = ad.add (j * wd)) (J Jx : List (ChX W0 wd) → World → Prop)
  (hY : ∀ pre x W, J pre W → pre.length < xs.length → YieldAt Fence.wide (n - 1) Try.prog l (chEnc x) W fun e W' =>
   (e = .returned (.bool true) ∧ J (pre ++ [x]) W' ∧ chKp N P W W') ∨ (e = .returned (.bool false) ∧ Jx (pre ++ [x]) W'))
  (hJd : ∀ pre W q, J pre W → J pre (W.drewN q))
  (W : World) (hBs : W.cell? ⟨Bs, 0, none⟩ = some (.slice (some ad) len cap)) (hBn : W.cell? ⟨Bn, 0, none⟩ = some (.int .i64 (wd : Int))) (hBl : Bs < N) (hBP : ¬ P Bs) (hBl2 : Bn < N) (hBP2 : ¬ P Bn) (h0 : J [] W) :
  CallsIn Fence.wide n Try.prog 90 #[.func (.yield l) #[] #[], .pointer (some ⟨Bs, 0, none⟩), .pointer (some ⟨Bn, 0, none⟩)] W fun e W' => (∃ v, e = .returned v) ∧ ((∃ ys, ys = xs ∧ J ys W') ∨ (∃ pre, True ∧ Jx pre W')) := by
 have HBs := Aside0.mk hBs
 have HBn := Aside0.mk hBn
 have HM := Aside0.mk hm
 have HXA := Aside0.mk hxa
 have HL := Aside0.mk hxs
 have HJD := Aside0.mk hJd
 clear hxs hm hxa hJd
 refine callsIn_of_wp Try.func90 rfl trivial ?_ rfl
 simp only [Try.ntmps90, List.size_toArray, List.length_cons, List.length_nil, Nat.reduceAdd, Nat.reduceSub, Array.replicate_succ, Array.replicate_zero, List.push_toArray, List.append_toArray, List.nil_append, List.cons_append]
 gi_wp2
 gi_loopw [4] (fun p wr => ∃ j i : Nat, Aside0 (i = j * wd) ∧ j ≤ m ∧ i ≤ len ∧ p = .int .i64 (i : Int) ∧ J (xs.take j) wr ∧ Aside0 (chKp N P W wr)) (fun p _ => len - (intOf p).toNat)
 case atStart => exact ⟨0, 0, ⟨by omega⟩, Nat.zero_le _, Nat.zero_le _, rfl, h0, ⟨chKp.refl _ _ _⟩⟩
 case round =>
  obtain ⟨j, i, hji, hjm, hil, rfl, hJs, HB⟩ := hrel
  have hbs := (HB.out.cell (p := ⟨Bs, 0, none⟩) hBl hBP).trans HBs.out
  have hbn := (HB.out.cell (p := ⟨Bn, 0, none⟩) hBl2 hBP2).trans HBn.out
  by_cases hlt : i < len
  ·have hjl : j < m := by
    refine Nat.lt_of_not_le (fun h => ?_)
    have h1 := Nat.mul_le_mul_right wd h
    rw [← hji.out, ← HM.out] at h1
    omega
   have hiw : i + wd ≤ len := by
    have h1 := Nat.mul_le_mul_right wd (show j + 1 ≤ m from hjl)
    rw [Nat.succ_mul, ← hji.out, ← HM.out] at h1
    exact h1
   have hjx : j < xs.length := by rw [HL.out]; exact hjl
   have hltz : decide ((i : Int) < (len : Int)) = true := decide_eq_true (by omega)
   have hmn : min (wd : Int) ((len : Int) - (i : Int)) = (wd : Int) := by omega
   have hsub : 0 < len - i := by omega
   gi_wp2
   refine (wpIn_wide (n := n)).2 ?_
   go_quiet (fail)
   obtain ⟨x, hx⟩ : ∃ x, xs[j]'hjx = x := ⟨_, rfl⟩
   have hen : chEnc x = #[.slice (some (ad.add i)) wd wd] := by
    have h1 := HXA.out j hjx
    rw [hx, ← hji.out] at h1
    unfold chEnc
    rw [h1, x.2.2.1]
   have htk : xs.take (j + 1) = xs.take j ++ [x] := by
    rw [List.take_add_one, List.getElem?_eq_getElem hjx, hx]; rfl
   obtain ⟨fn, tmps, assign, body, hy, hR⟩ := hY _ x (wr.drewN nq) (HJD.out _ _ nq hJs) (by rw [List.length_take]; omega)
   rw [hen] at hy
   have HT := Aside0.mk htk
   clear htk hx hen
   have hbs : (wr.drewN nq).cell? ⟨Bs, 0, none⟩ = some (.slice (some ad) len cap) := hbs
   have hbn : (wr.drewN nq).cell? ⟨Bn, 0, none⟩ = some (.int .i64 (wd : Int)) := hbn
   have HB2 : Aside0 (chKp N P W (wr.drewN nq)) := ⟨HB.out⟩
   clear hJs HB
   generalize wr.drewN nq = wq at *
   gi_wp2
   refine hR.mono ?_
   rintro e W3 (⟨rfl, hJ3, hk3⟩ | ⟨rfl, hJx3⟩)
   ·have hbn3 := (hk3.cell (p := ⟨Bn, 0, none⟩) hBl2 hBP2).trans hbn
    gi_wp2
    go_roundw
    case rel => exact ⟨j + 1, i + wd, ⟨by rw [Nat.succ_mul, hji.out]⟩, by omega, by omega, by go_num, by rw [HT.out]; exact hJ3, ⟨HB2.out.trans hk3⟩⟩
    case measure => simp [intOf]; omega
   ·gi_wp2
    refine bodyPost_ret (results_none rfl _ _ _) rfl ?_
    exact ⟨⟨_, rfl⟩, .inr ⟨_, trivial, hJx3⟩⟩
  ·obtain rfl : i = len := by omega
   have hjm2 : j = m := by
    have h1 := hji.out
    rw [HM.out] at h1
    exact (Nat.eq_of_mul_eq_mul_right (by omega) h1).symm
   have e : xs.take j = xs := by rw [hjm2, ← HL.out, List.take_length]
   rw [e] at hJs
   clear e hjm2
   gi_wp2
   go_end0
   first | exact ⟨⟨_, rfl⟩, .inl ⟨_, rfl, hJs⟩⟩ | exact ⟨⟨_, rfl⟩, .inl hJs⟩ | exact .inl hJs

end Go.Proofs.Ytckgeanmljmhfaa.X
