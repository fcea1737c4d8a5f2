/- Go functions as Lean functions, each with the proof that its call comes to just its answer. Conditions: the arguments are of their kinds. -/
import Derived.Test.YtckgeanmljmhfaaX0
namespace Go.Proofs.Ytckgeanmljmhfaa.X
open Go.RowKit Go.Proofs.YtckgeanmljmhfaaW.PrintWords Go.Proofs.YtckgeanmljmhfaaW.PrintLast Go.Proofs.YtckgeanmljmhfaaW.PrintMore
attribute [local go_sem] max2_int min2_int max_two min_two max_three min_three max_four min_four   -- for this text's walks alone
set_option linter.unusedVariables false
set_option linter.unusedSimpArgs false

/-! ### laws_szNodeS: function 8 -/
def laws_szNodeS.f (l0 : List (S65)) (a1 : Int) : Option (Int) := if (wrap64 (a1 - (l0.length : Int))) < 0 then (some (-1)) else (some (wrap64 (a1 - (l0.length : Int))))
set_option maxHeartbeats 8000000 in
set_option maxRecDepth 100000 in
theorem laws_szNodeS.calls (A0 : Option Addr) (c0 : Nat) (l0 : List (S65)) (a1 : Int) (r : Int) (w : World) (hr0 : Kd.C k65 w A0 l0.length l0) (hc0 : l0.length ≤ c0) (h : laws_szNodeS.f l0 a1 = some r) :
  Calls Try.prog 8 #[.slice A0 l0.length c0, .int .i64 a1] w fun e w' => e = .returned (.int .i64 r) ∧ Drawn0 w w' := by
 have HR0 := Aside0.mk hr0
 have HC0 := Aside0.mk hc0
 clear hr0 hc0
 have H : (if (wrap64 (a1 - (l0.length : Int))) < 0 then (some (-1)) else (some (wrap64 (a1 - (l0.length : Int))))) = some r := h
 clear h
 by_cases c3 : (wrap64 (a1 - (l0.length : Int))) < 0
 ·rw [if_pos c3] at H
  have c3b0 : decide ((wrap64 (a1 - (l0.length : Int))) < 0) = true := decide_eq_true c3
  clear c3
  obtain rfl := Option.some.inj H
  go_enter Try.func8, Try.ntmps8
  go_wp2
  go_ret
  exact ⟨by first | rfl | (simp; done) | (simp [*]; done), by repeat (first | exact Drawn0.refl _ | apply Drawn0.step)⟩
 ·rw [if_neg c3] at H
  have c3b0 : decide ((wrap64 (a1 - (l0.length : Int))) < 0) = false := decide_eq_false c3
  clear c3
  obtain rfl := Option.some.inj H
  go_enter Try.func8, Try.ntmps8
  go_wp2
  go_ret
  exact ⟨by first | rfl | (simp; done) | (simp [*]; done), by repeat (first | exact Drawn0.refl _ | apply Drawn0.step)⟩

/-! ### spec_l1In: function 56 -/
def spec_l1In.f (a0 : Int) (a1 : Int) (a2 : Int) : Option (Bool) := if a0 ≥ a1 then (some (decide (a0 ≤ a2))) else (some false)
set_option maxHeartbeats 8000000 in
set_option maxRecDepth 100000 in
theorem spec_l1In.calls (a0 : Int) (a1 : Int) (a2 : Int) (r : Bool) (w : World) (h : spec_l1In.f a0 a1 a2 = some r) :
  Calls Try.prog 56 #[.int .i64 a0, .int .i64 a1, .int .i64 a2] w fun e w' => e = .returned (.bool r) ∧ Drawn0 w w' := by
 have H : (if a0 ≥ a1 then (some (decide (a0 ≤ a2))) else (some false)) = some r := h
 clear h
 by_cases c4 : a0 ≥ a1
 ·rw [if_pos c4] at H
  have c4b0 : decide (a1 ≤ a0) = true := decide_eq_true c4
  clear c4
  obtain rfl := Option.some.inj H
  go_enter Try.func56, Try.ntmps56
  go_wp2
  go_ret
  exact ⟨by first | rfl | (simp; done) | (simp [*]; done), by repeat (first | exact Drawn0.refl _ | apply Drawn0.step)⟩
 ·rw [if_neg c4] at H
  have c4b0 : decide (a1 ≤ a0) = false := decide_eq_false c4
  clear c4
  obtain rfl := Option.some.inj H
  go_enter Try.func56, Try.ntmps56
  go_wp2
  go_ret
  exact ⟨by first | rfl | (simp; done) | (simp [*]; done), by repeat (first | exact Drawn0.refl _ | apply Drawn0.step)⟩

/-! ### spec_l2Need: function 61 -/
def spec_l2Need.j0 : Nat → Int → Bool → Option (Int × Int × Int)
 | 0, _, _ => none
 | k + 1, x0, x5 => if x5 = true then (some (0, 1, 1)) else (if x0 = 20 then (some (0, 2, 2)) else (if x0 = 13 then (some (1, 1, 1)) else (if x0 = 19 then (some (1, 2, 2)) else ((spec_l1In.f x0 3 12).bind fun t101 => (if t101 = true then (some (2, 1, 1)) else ((spec_l1In.f x0 14 16).bind fun t102 => (if t102 = true then (some (2, 1, 2)) else (if x0 = 17 then (some (2, 2, 2)) else (if x0 = 18 then (some (2, 2, 2)) else (some (0, 0, 0)))))))))))
def spec_l2Need.f (k : Nat) (a0 : Int) : Option (Int × Int × Int) := if a0 = 1 then (spec_l2Need.j0 k a0 true) else (spec_l2Need.j0 k a0 (a0 == 2))
theorem spec_l2Need.mono_l : ∀ k, (∀ y0 y1, LeO (spec_l2Need.j0 k y0 y1) (spec_l2Need.j0 (k + 1) y0 y1))
 | 0 => fun _ _ r h => by simp [spec_l2Need.j0] at h
 | k + 1 => by
  have ih0 := spec_l2Need.mono_l k
  ·intro y0 y1
   unfold spec_l2Need.j0
   repeat' first
   | (with_reducible exact ih0 _ _)
   | (with_reducible first | exact LeO.refl _ | exact LeO.none _ | refine LeO.ite ?_ ?_ | refine LeO.bind ?_ (fun _ => ?_))
   | exact ih0 _ _
   | exact LeO.none _ | refine LeO.ite ?_ ?_ | refine LeO.bind ?_ (fun _ => ?_)
theorem spec_l2Need.mono : ∀ a0 k, LeO (spec_l2Need.f k a0) (spec_l2Need.f (k + 1) a0) := by
 intro a0 k
 have ih0 := spec_l2Need.mono_l k
 unfold spec_l2Need.f
 repeat' first
   | (with_reducible exact ih0 _ _)
   | (with_reducible first | exact LeO.refl _ | exact LeO.none _ | refine LeO.ite ?_ ?_ | refine LeO.bind ?_ (fun _ => ?_))
   | exact ih0 _ _
   | exact LeO.none _ | refine LeO.ite ?_ ?_ | refine LeO.bind ?_ (fun _ => ?_)
set_option maxHeartbeats 8000000 in
set_option maxRecDepth 100000 in
theorem spec_l2Need.calls (k : Nat) (a0 : Int) (r1 : Int) (r2 : Int) (r3 : Int) (w : World) (h : spec_l2Need.f k a0 = some (r1, r2, r3)) :
  Calls Try.prog 61 #[.int .i64 a0] w fun e w' => e = .returned (.tuple #[.int .i64 r1, .int .i64 r2, .int .i64 r3]) ∧ Drawn0 w w' := by
 have H : (if a0 = 1 then (spec_l2Need.j0 k a0 true) else (spec_l2Need.j0 k a0 (a0 == 2))) = some (r1, r2, r3) := h
 clear h
 have HC2 := Aside0.mk H
 clear H
 go_enter Try.func61, Try.ntmps61
 go_upto_region 1 with (fail)
 go_cut [5] (fun v5 wc => ∃ (kq : Nat) (x5_1 : Bool), v5 = .bool x5_1 ∧ Aside0 (spec_l2Need.j0 kq a0 x5_1 = some (r1, r2, r3)) ∧ Aside0 (kq ≤ k) ∧ Drawn0 w wc)
 case first =>
  have H := HC2.out
  clear HC2
  by_cases c3 : a0 = 1
  ·rw [if_pos c3] at H
   have c3b0 : (a0 == 1) = true := beq_iff_eq.mpr c3
   have c3b1 : (a0 != 1) = false := bne_eq_false_iff_eq.mpr c3
   clear c3
   (first | rw [c3b0] | (simp only [i64_w, i32_w]; rw [c3b0]) | skip)
   have H' := Aside0.mk H
   clear H
   go_wp2
   go_meet
   case rel => exact ⟨_, (true), qS, H', ⟨by first | omega | exact Nat.le_refl _⟩, by repeat (first | exact Drawn0.refl _ | apply Drawn0.step)⟩
  ·rw [if_neg c3] at H
   have c3b0 : (a0 == 1) = false := beq_eq_false_iff_ne.mpr c3
   have c3b1 : (a0 != 1) = true := bne_iff_ne.mpr c3
   (first | rw [c3b0] | (simp only [i64_w, i32_w]; rw [c3b0]) | skip)
   have H' := Aside0.mk H
   clear H
   go_wp2
   go_meet
   case rel => exact ⟨_, ((a0 == 2)), qS, H', ⟨by first | omega | exact Nat.le_refl _⟩, by repeat (first | exact Drawn0.refl _ | apply Drawn0.step)⟩
 case rest =>
  clear HC2
  try clear p2
  try clear c3
  try clear c3b0
  try clear c3b1
  obtain ⟨kq, x5_1, rfl, HA, HJ1, ⟨mc1, rfl⟩⟩ := hcut
  cases kq with
  | zero => exact absurd HA.out (by simp [spec_l2Need.j0])
  | succ kj1 =>
   have H := HA.out
   clear HA
   simp only [spec_l2Need.j0] at H
   by_cases c4 : x5_1 = true
   ·subst c4
    have H1 : (some (0, 1, 1)) = some (r1, r2, r3) := by rw [if_pos rfl] at H; exact H
    clear H
    have H := H1
    clear H1
    simp only [Option.some.injEq, Prod.mk.injEq] at H
    obtain ⟨rfl, rfl, rfl⟩ := H
    go_wp2
    go_ret3
    exact ⟨by first | rfl | (simp; done) | (simp [*]; done), by repeat (first | exact Drawn0.refl _ | apply Drawn0.step)⟩
   ·replace c4 := Bool.eq_false_iff.mpr c4
    subst c4
    have H1 : (if a0 = 20 then (some (0, 2, 2)) else (if a0 = 13 then (some (1, 1, 1)) else (if a0 = 19 then (some (1, 2, 2)) else ((spec_l1In.f a0 3 12).bind fun t101 => (if t101 = true then (some (2, 1, 1)) else ((spec_l1In.f a0 14 16).bind fun t102 => (if t102 = true then (some (2, 1, 2)) else (if a0 = 17 then (some (2, 2, 2)) else (if a0 = 18 then (some (2, 2, 2)) else (some (0, 0, 0))))))))))) = some (r1, r2, r3) := by rw [if_neg (show ¬ (false = true) by decide)] at H; exact H
    clear H
    have H := H1
    clear H1
    by_cases c5 : a0 = 20
    ·rw [if_pos c5] at H
     have c5b0 : (a0 == 20) = true := beq_iff_eq.mpr c5
     have c5b1 : (a0 != 20) = false := bne_eq_false_iff_eq.mpr c5
     clear c5
     simp only [Option.some.injEq, Prod.mk.injEq] at H
     obtain ⟨rfl, rfl, rfl⟩ := H
     go_wp2
     go_ret3
     exact ⟨by first | rfl | (simp; done) | (simp [*]; done), by repeat (first | exact Drawn0.refl _ | apply Drawn0.step)⟩
    ·rw [if_neg c5] at H
     have c5b0 : (a0 == 20) = false := beq_eq_false_iff_ne.mpr c5
     have c5b1 : (a0 != 20) = true := bne_iff_ne.mpr c5
     by_cases c6 : a0 = 13
     ·rw [if_pos c6] at H
      have c6b0 : (a0 == 13) = true := beq_iff_eq.mpr c6
      have c6b1 : (a0 != 13) = false := bne_eq_false_iff_eq.mpr c6
      clear c6
      simp only [Option.some.injEq, Prod.mk.injEq] at H
      obtain ⟨rfl, rfl, rfl⟩ := H
      go_wp2
      go_ret3
      exact ⟨by first | rfl | (simp; done) | (simp [*]; done), by repeat (first | exact Drawn0.refl _ | apply Drawn0.step)⟩
     ·rw [if_neg c6] at H
      have c6b0 : (a0 == 13) = false := beq_eq_false_iff_ne.mpr c6
      have c6b1 : (a0 != 13) = true := bne_iff_ne.mpr c6
      by_cases c7 : a0 = 19
      ·rw [if_pos c7] at H
       have c7b0 : (a0 == 19) = true := beq_iff_eq.mpr c7
       have c7b1 : (a0 != 19) = false := bne_eq_false_iff_eq.mpr c7
       clear c7
       simp only [Option.some.injEq, Prod.mk.injEq] at H
       obtain ⟨rfl, rfl, rfl⟩ := H
       go_wp2
       go_ret3
       exact ⟨by first | rfl | (simp; done) | (simp [*]; done), by repeat (first | exact Drawn0.refl _ | apply Drawn0.step)⟩
      ·rw [if_neg c7] at H
       have c7b0 : (a0 == 19) = false := beq_eq_false_iff_ne.mpr c7
       have c7b1 : (a0 != 19) = true := bne_iff_ne.mpr c7
       replace H := Option.bind_eq_some_iff.mp H
       obtain ⟨t101, A80, H⟩ := H
       replace H : (if t101 = true then (some (2, 1, 1)) else ((spec_l1In.f a0 14 16).bind fun t102 => (if t102 = true then (some (2, 1, 2)) else (if a0 = 17 then (some (2, 2, 2)) else (if a0 = 18 then (some (2, 2, 2)) else (some (0, 0, 0))))))) = some (r1, r2, r3) := H
       have A8 := Aside0.mk A80
       clear A80
       by_cases c9 : t101 = true
       ·subst c9
        have H1 : (some (2, 1, 1)) = some (r1, r2, r3) := by rw [if_pos rfl] at H; exact H
        clear H
        have H := H1
        clear H1
        simp only [Option.some.injEq, Prod.mk.injEq] at H
        obtain ⟨rfl, rfl, rfl⟩ := H
        go_wp2_with (first | ((with_reducible refine gate_callee (f := 56) rfl ?_); refine goesL_ (some 23) rfl rfl Try.func56 (by kernel_rfl) rfl #[.int .i64 a0, .int .i64 3, .int .i64 12] rfl qG ?_; (with_reducible refine (spec_l1In.calls a0 3 12 true _ A8.out).mono ?_); rintro e w' ⟨rfl, ⟨nd, rfl⟩⟩; refine ⟨_, rfl, ?_⟩))
        go_ret3
        exact ⟨by first | rfl | (simp; done) | (simp [*]; done), by repeat (first | exact Drawn0.refl _ | apply Drawn0.step)⟩
       ·replace c9 := Bool.eq_false_iff.mpr c9
        subst c9
        have H1 : ((spec_l1In.f a0 14 16).bind fun t102 => (if t102 = true then (some (2, 1, 2)) else (if a0 = 17 then (some (2, 2, 2)) else (if a0 = 18 then (some (2, 2, 2)) else (some (0, 0, 0)))))) = some (r1, r2, r3) := by rw [if_neg (show ¬ (false = true) by decide)] at H; exact H
        clear H
        have H := H1
        clear H1
        replace H := Option.bind_eq_some_iff.mp H
        obtain ⟨t102, A100, H⟩ := H
        replace H : (if t102 = true then (some (2, 1, 2)) else (if a0 = 17 then (some (2, 2, 2)) else (if a0 = 18 then (some (2, 2, 2)) else (some (0, 0, 0))))) = some (r1, r2, r3) := H
        have A10 := Aside0.mk A100
        clear A100
        by_cases c11 : t102 = true
        ·subst c11
         have H1 : (some (2, 1, 2)) = some (r1, r2, r3) := by rw [if_pos rfl] at H; exact H
         clear H
         have H := H1
         clear H1
         simp only [Option.some.injEq, Prod.mk.injEq] at H
         obtain ⟨rfl, rfl, rfl⟩ := H
         go_wp2_with (first | ((with_reducible refine gate_callee (f := 56) rfl ?_); refine goesL_ (some 23) rfl rfl Try.func56 (by kernel_rfl) rfl #[.int .i64 a0, .int .i64 3, .int .i64 12] rfl qG ?_; (with_reducible refine (spec_l1In.calls a0 3 12 false _ A8.out).mono ?_); rintro e w' ⟨rfl, ⟨nd, rfl⟩⟩; refine ⟨_, rfl, ?_⟩) | ((with_reducible refine gate_callee (f := 56) rfl ?_); refine goesL_ (some 26) rfl rfl Try.func56 (by kernel_rfl) rfl #[.int .i64 a0, .int .i64 14, .int .i64 16] rfl qG ?_; (with_reducible refine (spec_l1In.calls a0 14 16 true _ A10.out).mono ?_); rintro e w' ⟨rfl, ⟨nd, rfl⟩⟩; refine ⟨_, rfl, ?_⟩))
         go_ret3
         exact ⟨by first | rfl | (simp; done) | (simp [*]; done), by repeat (first | exact Drawn0.refl _ | apply Drawn0.step)⟩
        ·replace c11 := Bool.eq_false_iff.mpr c11
         subst c11
         have H1 : (if a0 = 17 then (some (2, 2, 2)) else (if a0 = 18 then (some (2, 2, 2)) else (some (0, 0, 0)))) = some (r1, r2, r3) := by rw [if_neg (show ¬ (false = true) by decide)] at H; exact H
         clear H
         have H := H1
         clear H1
         by_cases c12 : a0 = 17
         ·rw [if_pos c12] at H
          have c12b0 : (a0 == 17) = true := beq_iff_eq.mpr c12
          have c12b1 : (a0 != 17) = false := bne_eq_false_iff_eq.mpr c12
          clear c12
          simp only [Option.some.injEq, Prod.mk.injEq] at H
          obtain ⟨rfl, rfl, rfl⟩ := H
          go_wp2_with (first | ((with_reducible refine gate_callee (f := 56) rfl ?_); refine goesL_ (some 23) rfl rfl Try.func56 (by kernel_rfl) rfl #[.int .i64 a0, .int .i64 3, .int .i64 12] rfl qG ?_; (with_reducible refine (spec_l1In.calls a0 3 12 false _ A8.out).mono ?_); rintro e w' ⟨rfl, ⟨nd, rfl⟩⟩; refine ⟨_, rfl, ?_⟩) | ((with_reducible refine gate_callee (f := 56) rfl ?_); refine goesL_ (some 26) rfl rfl Try.func56 (by kernel_rfl) rfl #[.int .i64 a0, .int .i64 14, .int .i64 16] rfl qG ?_; (with_reducible refine (spec_l1In.calls a0 14 16 false _ A10.out).mono ?_); rintro e w' ⟨rfl, ⟨nd, rfl⟩⟩; refine ⟨_, rfl, ?_⟩))
          go_ret3
          exact ⟨by first | rfl | (simp; done) | (simp [*]; done), by repeat (first | exact Drawn0.refl _ | apply Drawn0.step)⟩
         ·rw [if_neg c12] at H
          have c12b0 : (a0 == 17) = false := beq_eq_false_iff_ne.mpr c12
          have c12b1 : (a0 != 17) = true := bne_iff_ne.mpr c12
          by_cases c13 : a0 = 18
          ·rw [if_pos c13] at H
           have c13b0 : (a0 == 18) = true := beq_iff_eq.mpr c13
           have c13b1 : (a0 != 18) = false := bne_eq_false_iff_eq.mpr c13
           clear c13
           simp only [Option.some.injEq, Prod.mk.injEq] at H
           obtain ⟨rfl, rfl, rfl⟩ := H
           go_wp2_with (first | ((with_reducible refine gate_callee (f := 56) rfl ?_); refine goesL_ (some 23) rfl rfl Try.func56 (by kernel_rfl) rfl #[.int .i64 a0, .int .i64 3, .int .i64 12] rfl qG ?_; (with_reducible refine (spec_l1In.calls a0 3 12 false _ A8.out).mono ?_); rintro e w' ⟨rfl, ⟨nd, rfl⟩⟩; refine ⟨_, rfl, ?_⟩) | ((with_reducible refine gate_callee (f := 56) rfl ?_); refine goesL_ (some 26) rfl rfl Try.func56 (by kernel_rfl) rfl #[.int .i64 a0, .int .i64 14, .int .i64 16] rfl qG ?_; (with_reducible refine (spec_l1In.calls a0 14 16 false _ A10.out).mono ?_); rintro e w' ⟨rfl, ⟨nd, rfl⟩⟩; refine ⟨_, rfl, ?_⟩))
           go_ret3
           exact ⟨by first | rfl | (simp; done) | (simp [*]; done), by repeat (first | exact Drawn0.refl _ | apply Drawn0.step)⟩
          ·rw [if_neg c13] at H
           have c13b0 : (a0 == 18) = false := beq_eq_false_iff_ne.mpr c13
           have c13b1 : (a0 != 18) = true := bne_iff_ne.mpr c13
           simp only [Option.some.injEq, Prod.mk.injEq] at H
           obtain ⟨rfl, rfl, rfl⟩ := H
           go_wp2_with (first | ((with_reducible refine gate_callee (f := 56) rfl ?_); refine goesL_ (some 23) rfl rfl Try.func56 (by kernel_rfl) rfl #[.int .i64 a0, .int .i64 3, .int .i64 12] rfl qG ?_; (with_reducible refine (spec_l1In.calls a0 3 12 false _ A8.out).mono ?_); rintro e w' ⟨rfl, ⟨nd, rfl⟩⟩; refine ⟨_, rfl, ?_⟩) | ((with_reducible refine gate_callee (f := 56) rfl ?_); refine goesL_ (some 26) rfl rfl Try.func56 (by kernel_rfl) rfl #[.int .i64 a0, .int .i64 14, .int .i64 16] rfl qG ?_; (with_reducible refine (spec_l1In.calls a0 14 16 false _ A10.out).mono ?_); rintro e w' ⟨rfl, ⟨nd, rfl⟩⟩; refine ⟨_, rfl, ?_⟩))
           go_ret3
           exact ⟨by first | rfl | (simp; done) | (simp [*]; done), by repeat (first | exact Drawn0.refl _ | apply Drawn0.step)⟩

/-! ### spec_l1Wide: function 109 -/
def spec_l1Wide.f (a0 : Int) : Option (Bool) := (spec_l1In.f a0 1 64).bind fun t103 => (some t103)
set_option maxHeartbeats 8000000 in
set_option maxRecDepth 100000 in
theorem spec_l1Wide.calls (a0 : Int) (r : Bool) (w : World) (h : spec_l1Wide.f a0 = some r) :
  Calls Try.prog 109 #[.int .i64 a0] w fun e w' => e = .returned (.bool r) ∧ Drawn0 w w' := by
 have H : ((spec_l1In.f a0 1 64).bind fun t103 => (some t103)) = some r := h
 clear h
 replace H := Option.bind_eq_some_iff.mp H
 obtain ⟨t103, A20, H⟩ := H
 replace H : (some t103) = some r := H
 have A2 := Aside0.mk A20
 clear A20
 obtain rfl := Option.some.inj H
 go_enter Try.func109, Try.ntmps109
 go_wp2_with (first | ((with_reducible refine gate_callee (f := 56) rfl ?_); refine goesL_ (some 4) rfl rfl Try.func56 (by kernel_rfl) rfl #[.int .i64 a0, .int .i64 1, .int .i64 64] rfl qG ?_; (with_reducible refine (spec_l1In.calls a0 1 64 t103 _ A2.out).mono ?_); rintro e w' ⟨rfl, ⟨nd, rfl⟩⟩; refine ⟨_, rfl, ?_⟩))
 go_ret
 exact ⟨by first | rfl | (simp; done) | (simp [*]; done), by repeat (first | exact Drawn0.refl _ | apply Drawn0.step)⟩

/-! ### spec_l1Cut: function 110 -/
def spec_l1Cut.l0 : Nat → Int → Int → Int → Int → Option (Int)
 | 0, _, _, _, _ => none
 | k + 1, x0, x1, x5, x6 => if x6 < x0 then (if 0 ≤ (IntKind.u64.wrap (x6)) then (spec_l1Cut.l0 k x0 x1 (Go.bits .or .u64 x5 (Go.bits .and .u64 x1 (shl .u64 1 (IntKind.u64.wrap (x6))))) (wrap64 (x6 + 1))) else (none)) else (some x5)
def spec_l1Cut.f (k : Nat) (a0 : Int) (a1 : Int) : Option (Int) := spec_l1Cut.l0 k a0 a1 0 0
theorem spec_l1Cut.mono_l : ∀ k, (∀ y0 y1 y2 y3, LeO (spec_l1Cut.l0 k y0 y1 y2 y3) (spec_l1Cut.l0 (k + 1) y0 y1 y2 y3))
 | 0 => fun _ _ _ _ r h => by simp [spec_l1Cut.l0] at h
 | k + 1 => by
  have ih0 := spec_l1Cut.mono_l k
  ·intro y0 y1 y2 y3
   unfold spec_l1Cut.l0
   repeat' first
   | (with_reducible exact ih0 _ _ _ _)
   | (with_reducible first | exact LeO.refl _ | exact LeO.none _ | refine LeO.ite ?_ ?_ | refine LeO.bind ?_ (fun _ => ?_))
   | exact ih0 _ _ _ _
   | exact LeO.none _ | refine LeO.ite ?_ ?_ | refine LeO.bind ?_ (fun _ => ?_)
theorem spec_l1Cut.mono : ∀ a0 a1 k, LeO (spec_l1Cut.f k a0 a1) (spec_l1Cut.f (k + 1) a0 a1) := by
 intro a0 a1 k
 have ih0 := spec_l1Cut.mono_l k
 unfold spec_l1Cut.f
 repeat' first
   | (with_reducible exact ih0 _ _ _ _)
   | (with_reducible first | exact LeO.refl _ | exact LeO.none _ | refine LeO.ite ?_ ?_ | refine LeO.bind ?_ (fun _ => ?_))
   | exact ih0 _ _ _ _
   | exact LeO.none _ | refine LeO.ite ?_ ?_ | refine LeO.bind ?_ (fun _ => ?_)
set_option maxHeartbeats 8000000 in
set_option maxRecDepth 100000 in
theorem spec_l1Cut.calls (k : Nat) (a0 : Int) (a1 : Int) (r : Int) (w : World) (h : spec_l1Cut.f k a0 a1 = some r) :
  Calls Try.prog 110 #[.int .i64 a0, .int .u64 a1] w fun e w' => e = .returned (.int .u64 r) ∧ Drawn0 w w' := by
 have H : (spec_l1Cut.l0 k a0 a1 0 0) = some r := h
 clear h
 have H' := Aside0.mk H
 clear H
 go_enter Try.func110, Try.ntmps110
 go_wp2
 go_loopg [5, 6] k (fun kq v5 v6 w' => ∃ (x5_1 : Int) (x6_1 : Int), v5 = .int .u64 x5_1 ∧ v6 = .int .i64 x6_1 ∧ Aside0 (spec_l1Cut.l0 kq a0 a1 x5_1 x6_1 = some r) ∧ Aside0 (kq ≤ k) ∧ Drawn0 w w')
 case atStart => exact ⟨(0), (0), qS, qS, H', ⟨Nat.le_refl _⟩, by repeat (first | exact Drawn0.refl _ | apply Drawn0.step)⟩
 case round =>
  clear H'
  try clear c1
  try clear p2
  obtain ⟨x5_1, x6_1, rfl, rfl, HA, HK1, ⟨m1, rfl⟩⟩ := hrel
  cases gk with
  | zero => exact absurd HA.out (by simp [spec_l1Cut.l0])
  | succ k1 =>
   have H := HA.out
   clear HA
   simp only [spec_l1Cut.l0] at H
   by_cases c3 : x6_1 < a0
   ·rw [if_pos c3] at H
    have c3b0 : decide (x6_1 < a0) = true := decide_eq_true c3
    clear c3
    obtain ⟨ji4, hji4⟩ : ∃ j_ : Int, (IntKind.u64.wrap (x6_1)) = j_ := ⟨_, rfl⟩
    replace H : (if 0 ≤ (ji4) then (spec_l1Cut.l0 k1 a0 a1 (Go.bits .or .u64 x5_1 (Go.bits .and .u64 a1 (shl .u64 1 (ji4)))) (wrap64 (x6_1 + 1))) else (none)) = some r := by first | (rw [hji4] at H; exact H) | (simp only [hji4] at H ⊢; exact H)
    by_cases c5 : 0 ≤ (ji4)
    ·rw [if_pos c5] at H
     have c5b0 := eq_true c5
     have c5b1 : decide (0 ≤ (ji4)) = true := decide_eq_true c5
     clear c5
     obtain ⟨ji6, hji6⟩ : ∃ j_ : Int, (shl .u64 1 (ji4)) = j_ := ⟨_, rfl⟩
     replace H : (spec_l1Cut.l0 k1 a0 a1 (Go.bits .or .u64 x5_1 (Go.bits .and .u64 a1 (ji6))) (wrap64 (x6_1 + 1))) = some r := by first | (rw [hji6] at H; exact H) | (simp only [hji6] at H ⊢; exact H)
     have hji6_ : (IntKind.u64.wrap (1 * 2 ^ min (ji4).toNat 64)) = ji6 := hji6
     have hji6z : (ji4) ≤ 64 → (IntKind.u64.wrap (1 * 2 ^ (ji4).toNat)) = ji6 := shl_small hji6
     have hji6u : (IntKind.u64.wrap (2 ^ min (ji4).toNat 64)) = ji6 := by have h_ := hji6_; rw [Int.one_mul] at h_; exact h_
     have hji6v : (ji4) ≤ 64 → (IntKind.u64.wrap (2 ^ (ji4).toNat)) = ji6 := fun hle_ => by have h_ := hji6z hle_; rw [Int.one_mul] at h_; exact h_
     have H' := Aside0.mk H
     clear H
     go_wp2
     go_roundg k1
     case measure => have := HK1.out; omega
     case rel => exact ⟨(Go.bits .or .u64 x5_1 (Go.bits .and .u64 a1 (ji6))), (wrap64 (x6_1 + 1)), (by first | rfl | (simp; done) | (simp only [← hji6] <;> (first | rfl | simp)) | (simp [*]; done)), qS, H', ⟨by have := HK1.out; omega⟩, by repeat (first | exact Drawn0.refl _ | apply Drawn0.step)⟩
    ·rw [if_neg c5] at H
     exact absurd H (by simp)
   ·rw [if_neg c3] at H
    have c3b0 : decide (x6_1 < a0) = false := decide_eq_false c3
    clear c3
    obtain rfl := Option.some.inj H
    go_wp2
    go_ret
    exact ⟨by first | rfl | (simp; done) | (simp [*]; done), by repeat (first | exact Drawn0.refl _ | apply Drawn0.step)⟩


/-! ### spec_GoodWord: function 83 -/
def spec_GoodWord.f (k : Nat) (a0 : Int) (a1 : Int) : Option (Bool) := (spec_l1Wide.f a0).bind fun t104 => (if t104 = true then ((spec_l1Cut.f k a0 a1).bind fun t105 => (some (t105 == a1))) else (some false))
theorem spec_GoodWord.mono : ∀ a0 a1 k, LeO (spec_GoodWord.f k a0 a1) (spec_GoodWord.f (k + 1) a0 a1) := by
 intro a0 a1 k
 unfold spec_GoodWord.f
 repeat' first
   | (with_reducible exact spec_l1Cut.mono _ _ _)
   | (with_reducible first | exact LeO.refl _ | exact LeO.none _ | refine LeO.ite ?_ ?_ | refine LeO.bind ?_ (fun _ => ?_))
   | exact spec_l1Cut.mono _ _ _
   | exact LeO.none _ | refine LeO.ite ?_ ?_ | refine LeO.bind ?_ (fun _ => ?_)
set_option maxHeartbeats 8000000 in
set_option maxRecDepth 100000 in
theorem spec_GoodWord.calls (k : Nat) (a0 : Int) (a1 : Int) (r : Bool) (w : World) (h : spec_GoodWord.f k a0 a1 = some r) :
  Calls Try.prog 83 #[.int .i64 a0, .int .u64 a1] w fun e w' => e = .returned (.bool r) ∧ Drawn0 w w' := by
 have H : ((spec_l1Wide.f a0).bind fun t104 => (if t104 = true then ((spec_l1Cut.f k a0 a1).bind fun t105 => (some (t105 == a1))) else (some false))) = some r := h
 clear h
 replace H := Option.bind_eq_some_iff.mp H
 obtain ⟨t104, A30, H⟩ := H
 replace H : (if t104 = true then ((spec_l1Cut.f k a0 a1).bind fun t105 => (some (t105 == a1))) else (some false)) = some r := H
 have A3 := Aside0.mk A30
 clear A30
 by_cases c4 : t104 = true
 ·subst c4
  have H1 : ((spec_l1Cut.f k a0 a1).bind fun t105 => (some (t105 == a1))) = some r := by rw [if_pos rfl] at H; exact H
  clear H
  have H := H1
  clear H1
  replace H := Option.bind_eq_some_iff.mp H
  obtain ⟨t105, A50, H⟩ := H
  replace H : (some (t105 == a1)) = some r := H
  have A5 := Aside0.mk A50
  clear A50
  obtain rfl := Option.some.inj H
  go_enter Try.func83, Try.ntmps83
  go_wp2_with (first | ((with_reducible refine gate_callee (f := 109) rfl ?_); refine goesL_ (some 6) rfl rfl Try.func109 (by kernel_rfl) rfl #[.int .i64 a0] rfl qG ?_; (with_reducible refine (spec_l1Wide.calls a0 true _ A3.out).mono ?_); rintro e w' ⟨rfl, ⟨nd, rfl⟩⟩; refine ⟨_, rfl, ?_⟩) | (go_at_call 110; (with_reducible refine (spec_l1Cut.calls k a0 a1 t105 _ A5.out).mono ?_); rintro e w' ⟨rfl, ⟨nd, rfl⟩⟩))
  go_ret
  exact ⟨by first | rfl | (simp; done) | (simp [*]; done), by repeat (first | exact Drawn0.refl _ | apply Drawn0.step)⟩
 ·replace c4 := Bool.eq_false_iff.mpr c4
  subst c4
  have H1 : (some false) = some r := by rw [if_neg (show ¬ (false = true) by decide)] at H; exact H
  clear H
  have H := H1
  clear H1
  obtain rfl := Option.some.inj H
  go_enter Try.func83, Try.ntmps83
  go_wp2_with (first | ((with_reducible refine gate_callee (f := 109) rfl ?_); refine goesL_ (some 6) rfl rfl Try.func109 (by kernel_rfl) rfl #[.int .i64 a0] rfl qG ?_; (with_reducible refine (spec_l1Wide.calls a0 false _ A3.out).mono ?_); rintro e w' ⟨rfl, ⟨nd, rfl⟩⟩; refine ⟨_, rfl, ?_⟩))
  go_ret
  exact ⟨by first | rfl | (simp; done) | (simp [*]; done), by repeat (first | exact Drawn0.refl _ | apply Drawn0.step)⟩

/-! ### spec_l2N: function 115 -/
def spec_l2N.f (k : Nat) (a0 : Int) (a1 : Int) (a2_0 : Int) (a2_1 : Int) : Option (Bool) := if a2_0 = 1 then ((spec_GoodWord.f k a0 a2_1).bind fun t107 => (some t107)) else (if a2_0 = 2 then (some (decide (a2_1 < (IntKind.u64.wrap (a1))))) else (if a2_0 = 20 then (some (decide (a2_1 < 2))) else (some (a2_1 == 0))))
theorem spec_l2N.mono : ∀ a0 a1 a2 a3 k, LeO (spec_l2N.f k a0 a1 a2 a3) (spec_l2N.f (k + 1) a0 a1 a2 a3) := by
 intro a0 a1 a2 a3 k
 unfold spec_l2N.f
 repeat' first
   | (with_reducible exact spec_GoodWord.mono _ _ _)
   | (with_reducible first | exact LeO.refl _ | exact LeO.none _ | refine LeO.ite ?_ ?_ | refine LeO.bind ?_ (fun _ => ?_))
   | exact spec_GoodWord.mono _ _ _
   | exact LeO.none _ | refine LeO.ite ?_ ?_ | refine LeO.bind ?_ (fun _ => ?_)
set_option maxHeartbeats 8000000 in
set_option maxRecDepth 100000 in
theorem spec_l2N.calls (k : Nat) (a0 : Int) (a1 : Int) (a2_0 : Int) (a2_1 : Int) (r : Bool) (w : World) (h : spec_l2N.f k a0 a1 a2_0 a2_1 = some r) :
  Calls Try.prog 115 #[.int .i64 a0, .int .i64 a1, .agg #[.int .i64 a2_0, .int .u64 a2_1]] w fun e w' => e = .returned (.bool r) ∧ Below w.heap.size w w' := by
 have hu63 := Try.underlying63
 have HB := Aside0.mk (Below.refl w.heap.size w)
 have H : (if a2_0 = 1 then ((spec_GoodWord.f k a0 a2_1).bind fun t107 => (some t107)) else (if a2_0 = 2 then (some (decide (a2_1 < (IntKind.u64.wrap (a1))))) else (if a2_0 = 20 then (some (decide (a2_1 < 2))) else (some (a2_1 == 0))))) = some r := h
 clear h
 by_cases c4 : a2_0 = 1
 ·rw [if_pos c4] at H
  have c4b0 : (a2_0 == 1) = true := beq_iff_eq.mpr c4
  have c4b1 : (a2_0 != 1) = false := bne_eq_false_iff_eq.mpr c4
  clear c4
  replace H := Option.bind_eq_some_iff.mp H
  obtain ⟨t107, A50, H⟩ := H
  replace H : (some t107) = some r := H
  have A5 := Aside0.mk A50
  clear A50
  obtain rfl := Option.some.inj H
  go_enter Try.func115, Try.ntmps115
  go_wp2_with (first | ((with_reducible refine gate_dst (N := 5) rfl ?_); refine box_event ?hg (N := 5) ?hd (cs := #[.int .i64 a2_0, .int .u64 a2_1]) (t := 63) ?hr ?_; (case hd => rfl); (case hg => rfl); (case hr => first | (go_simp; done) | (go_simp; rfl)); intro gb106 hg w6 hbox hb; have n0_ := Aside0.mk (below_step (qB) hb); have n1_ := Aside0.mk (hbox); have n2_ := Aside0.mk ((by rw [hg]; exact (below_size (qB)) : w.heap.size ≤ gb106)); have n3_ := Aside0.mk ((by rw [hg]; exact (below_size (qB)) : w.heap.size ≤ gb106)); clear HB; have HB := n0_; have BK106 := n1_; have GW106 := n2_; have GE106 := n3_; clear n0_ n1_ n2_ n3_; clear hb hbox hg; have hcz7_0 : w6.cell? ⟨gb106, 0, none⟩ = some (.int .i64 a2_0) := (blk_cell BK106.out 0).trans rfl; have hcz7_1 : w6.cell? ⟨gb106, 1, none⟩ = some (.int .u64 a2_1) := (blk_cell BK106.out 1).trans rfl; have hfz7_0 := blk_frozen BK106.out 0; have hfz7_1 := blk_frozen BK106.out 1) | ((with_reducible refine gate_callee (f := 83) rfl ?_); refine goesL_ (some 14) rfl rfl Try.func83 (by kernel_rfl) rfl #[.int .i64 a0, .int .u64 a2_1] rfl qG ?_; (with_reducible refine (spec_GoodWord.calls k a0 a2_1 t107 _ A5.out).mono ?_); rintro e w' ⟨rfl, ⟨nd, rfl⟩⟩; refine ⟨_, rfl, ?_⟩))
  go_ret
  exact ⟨qE, qB⟩
 ·rw [if_neg c4] at H
  have c4b0 : (a2_0 == 1) = false := beq_eq_false_iff_ne.mpr c4
  have c4b1 : (a2_0 != 1) = true := bne_iff_ne.mpr c4
  by_cases c8 : a2_0 = 2
  ·rw [if_pos c8] at H
   have c8b0 : (a2_0 == 2) = true := beq_iff_eq.mpr c8
   have c8b1 : (a2_0 != 2) = false := bne_eq_false_iff_eq.mpr c8
   clear c8
   obtain rfl := Option.some.inj H
   go_enter Try.func115, Try.ntmps115
   go_wp2_with (first | ((with_reducible refine gate_dst (N := 5) rfl ?_); refine box_event ?hg (N := 5) ?hd (cs := #[.int .i64 a2_0, .int .u64 a2_1]) (t := 63) ?hr ?_; (case hd => rfl); (case hg => rfl); (case hr => first | (go_simp; done) | (go_simp; rfl)); intro gb106 hg w9 hbox hb; have n0_ := Aside0.mk (below_step (qB) hb); have n1_ := Aside0.mk (hbox); have n2_ := Aside0.mk ((by rw [hg]; exact (below_size (qB)) : w.heap.size ≤ gb106)); have n3_ := Aside0.mk ((by rw [hg]; exact (below_size (qB)) : w.heap.size ≤ gb106)); clear HB; have HB := n0_; have BK106 := n1_; have GW106 := n2_; have GE106 := n3_; clear n0_ n1_ n2_ n3_; clear hb hbox hg; have hcz10_0 : w9.cell? ⟨gb106, 0, none⟩ = some (.int .i64 a2_0) := (blk_cell BK106.out 0).trans rfl; have hcz10_1 : w9.cell? ⟨gb106, 1, none⟩ = some (.int .u64 a2_1) := (blk_cell BK106.out 1).trans rfl; have hfz10_0 := blk_frozen BK106.out 0; have hfz10_1 := blk_frozen BK106.out 1))
   go_ret
   exact ⟨qE, qB⟩
  ·rw [if_neg c8] at H
   have c8b0 : (a2_0 == 2) = false := beq_eq_false_iff_ne.mpr c8
   have c8b1 : (a2_0 != 2) = true := bne_iff_ne.mpr c8
   by_cases c11 : a2_0 = 20
   ·rw [if_pos c11] at H
    have c11b0 : (a2_0 == 20) = true := beq_iff_eq.mpr c11
    have c11b1 : (a2_0 != 20) = false := bne_eq_false_iff_eq.mpr c11
    clear c11
    obtain rfl := Option.some.inj H
    go_enter Try.func115, Try.ntmps115
    go_wp2_with (first | ((with_reducible refine gate_dst (N := 5) rfl ?_); refine box_event ?hg (N := 5) ?hd (cs := #[.int .i64 a2_0, .int .u64 a2_1]) (t := 63) ?hr ?_; (case hd => rfl); (case hg => rfl); (case hr => first | (go_simp; done) | (go_simp; rfl)); intro gb106 hg w12 hbox hb; have n0_ := Aside0.mk (below_step (qB) hb); have n1_ := Aside0.mk (hbox); have n2_ := Aside0.mk ((by rw [hg]; exact (below_size (qB)) : w.heap.size ≤ gb106)); have n3_ := Aside0.mk ((by rw [hg]; exact (below_size (qB)) : w.heap.size ≤ gb106)); clear HB; have HB := n0_; have BK106 := n1_; have GW106 := n2_; have GE106 := n3_; clear n0_ n1_ n2_ n3_; clear hb hbox hg; have hcz13_0 : w12.cell? ⟨gb106, 0, none⟩ = some (.int .i64 a2_0) := (blk_cell BK106.out 0).trans rfl; have hcz13_1 : w12.cell? ⟨gb106, 1, none⟩ = some (.int .u64 a2_1) := (blk_cell BK106.out 1).trans rfl; have hfz13_0 := blk_frozen BK106.out 0; have hfz13_1 := blk_frozen BK106.out 1))
    go_ret
    exact ⟨qE, qB⟩
   ·rw [if_neg c11] at H
    have c11b0 : (a2_0 == 20) = false := beq_eq_false_iff_ne.mpr c11
    have c11b1 : (a2_0 != 20) = true := bne_iff_ne.mpr c11
    obtain rfl := Option.some.inj H
    go_enter Try.func115, Try.ntmps115
    go_wp2_with (first | ((with_reducible refine gate_dst (N := 5) rfl ?_); refine box_event ?hg (N := 5) ?hd (cs := #[.int .i64 a2_0, .int .u64 a2_1]) (t := 63) ?hr ?_; (case hd => rfl); (case hg => rfl); (case hr => first | (go_simp; done) | (go_simp; rfl)); intro gb106 hg w14 hbox hb; have n0_ := Aside0.mk (below_step (qB) hb); have n1_ := Aside0.mk (hbox); have n2_ := Aside0.mk ((by rw [hg]; exact (below_size (qB)) : w.heap.size ≤ gb106)); have n3_ := Aside0.mk ((by rw [hg]; exact (below_size (qB)) : w.heap.size ≤ gb106)); clear HB; have HB := n0_; have BK106 := n1_; have GW106 := n2_; have GE106 := n3_; clear n0_ n1_ n2_ n3_; clear hb hbox hg; have hcz15_0 : w14.cell? ⟨gb106, 0, none⟩ = some (.int .i64 a2_0) := (blk_cell BK106.out 0).trans rfl; have hcz15_1 : w14.cell? ⟨gb106, 1, none⟩ = some (.int .u64 a2_1) := (blk_cell BK106.out 1).trans rfl; have hfz15_0 := blk_frozen BK106.out 0; have hfz15_1 := blk_frozen BK106.out 1))
    go_ret
    exact ⟨qE, qB⟩


/-! ### spec_l2Kind: function 91 -/
mutual
def spec_l2Kind.j0 : Nat → Int → Int → List (S63) → Bool → Option (Int)
 | 0, _, _, _, _ => none
 | k + 1, x0, x1, x2, x26 => if x26 = true then (some 0) else (spec_l2Kind.l0 k x0 x1 ([] : List Int) x2 (x2.length : Int) 0)
def spec_l2Kind.l0 : Nat → Int → Int → List Int → List (S63) → Int → Int → Option (Int)
 | 0, _, _, _, _, _, _ => none
 | k + 1, x0, x1, x7, x27, x28, x29 => if x29 < x28 then (if 0 ≤ x29 then (if x29 < (x27.length : Int) then ((spec_l2Need.f k ((rd_T63 x27 x29).f0)).bind fun bt114 => (if bt114.2.2 = 0 then (spec_l2Kind.j2 k x0 x1 x7 bt114.1 bt114.2.1 bt114.2.2 x27 x28 x29 true) else ((spec_l2N.f k x0 x1 ((rd_T63 x27 x29).f0) ((rd_T63 x27 x29).f1)).bind fun t117 => (if t117 = true then (spec_l2Kind.j2 k x0 x1 x7 bt114.1 bt114.2.1 bt114.2.2 x27 x28 x29 (decide ((x7.length : Int) < bt114.1))) else (spec_l2Kind.j2 k x0 x1 x7 bt114.1 bt114.2.1 bt114.2.2 x27 x28 x29 true))))) else (none)) else (none)) else (if (x7.length : Int) = 1 then (if 0 < (x7.length : Int) then (some (rd x7 0)) else (none)) else (some 0))
def spec_l2Kind.j2 : Nat → Int → Int → List Int → Int → Int → Int → List (S63) → Int → Int → Bool → Option (Int)
 | 0, _, _, _, _, _, _, _, _, _, _ => none
 | k + 1, x0, x1, x7, x10, x11, x12, x27, x28, x29, x54 => if x54 = true then (some 0) else (spec_l2Kind.l1 k x0 x1 x7 x10 x11 x12 x27 x28 x29)
def spec_l2Kind.l1 : Nat → Int → Int → List Int → Int → Int → Int → List (S63) → Int → Int → Option (Int)
 | 0, _, _, _, _, _, _, _, _, _ => none
 | k + 1, x0, x1, x7, x10, x11, x12, x27, x28, x29 => if x10 > 0 then (if 0 ≤ (wrap64 ((x7.length : Int) - 1)) then (if (wrap64 ((x7.length : Int) - 1)) < (x7.length : Int) then (if (rd x7 (wrap64 ((x7.length : Int) - 1))) = x11 then (if (wrap64 ((x7.length : Int) - 1)) ≤ (x7.length : Int) then (spec_l2Kind.l1 k x0 x1 (x7.take ((wrap64 ((x7.length : Int) - 1)) : Int).toNat) (wrap64 (x10 - 1)) x11 x12 x27 x28 x29) else (none)) else (some 0)) else (none)) else (none)) else (if x7.length < 17592186044416 then (spec_l2Kind.l0 k x0 x1 (x7 ++ [x12]) x27 x28 (wrap64 (x29 + 1))) else (none))
end
def spec_l2Kind.f (k : Nat) (a0 : Int) (a1 : Int) (l2 : List (S63)) : Option (Int) := (spec_l1Wide.f a0).bind fun t108 => (if t108 = true then ((spec_l1In.f a1 1 4).bind fun t109 => (if t109 = true then ((spec_l1In.f (l2.length : Int) 1 48).bind fun t110 => (spec_l2Kind.j0 k a0 a1 l2 (!t110))) else (spec_l2Kind.j0 k a0 a1 l2 true))) else (spec_l2Kind.j0 k a0 a1 l2 true))
theorem spec_l2Kind.mono_l : ∀ k, (∀ y0 y1 y2 y3, LeO (spec_l2Kind.j0 k y0 y1 y2 y3) (spec_l2Kind.j0 (k + 1) y0 y1 y2 y3)) ∧ (∀ y0 y1 y2 y3 y4 y5, LeO (spec_l2Kind.l0 k y0 y1 y2 y3 y4 y5) (spec_l2Kind.l0 (k + 1) y0 y1 y2 y3 y4 y5)) ∧ (∀ y0 y1 y2 y3 y4 y5 y6 y7 y8 y9, LeO (spec_l2Kind.j2 k y0 y1 y2 y3 y4 y5 y6 y7 y8 y9) (spec_l2Kind.j2 (k + 1) y0 y1 y2 y3 y4 y5 y6 y7 y8 y9)) ∧ (∀ y0 y1 y2 y3 y4 y5 y6 y7 y8, LeO (spec_l2Kind.l1 k y0 y1 y2 y3 y4 y5 y6 y7 y8) (spec_l2Kind.l1 (k + 1) y0 y1 y2 y3 y4 y5 y6 y7 y8))
 | 0 => ⟨fun _ _ _ _ r h => by simp [spec_l2Kind.j0] at h, fun _ _ _ _ _ _ r h => by simp [spec_l2Kind.l0] at h, fun _ _ _ _ _ _ _ _ _ _ r h => by simp [spec_l2Kind.j2] at h, fun _ _ _ _ _ _ _ _ _ r h => by simp [spec_l2Kind.l1] at h⟩
 | k + 1 => by
  obtain ⟨ih0, ih1, ih2, ih3⟩ := spec_l2Kind.mono_l k
  refine ⟨?_, ?_, ?_, ?_⟩
  ·intro y0 y1 y2 y3
   unfold spec_l2Kind.j0
   repeat' first
   | (with_reducible exact ih0 _ _ _ _)
   | (with_reducible exact ih1 _ _ _ _ _ _)
   | (with_reducible exact ih2 _ _ _ _ _ _ _ _ _ _)
   | (with_reducible exact ih3 _ _ _ _ _ _ _ _ _)
   | (with_reducible exact spec_l2N.mono _ _ _ _ _)
   | (with_reducible exact spec_l2Need.mono _ _)
   | (with_reducible first | exact LeO.refl _ | exact LeO.none _ | refine LeO.ite ?_ ?_ | refine LeO.bind ?_ (fun _ => ?_))
   | exact ih0 _ _ _ _
   | exact ih1 _ _ _ _ _ _
   | exact ih2 _ _ _ _ _ _ _ _ _ _
   | exact ih3 _ _ _ _ _ _ _ _ _
   | exact spec_l2N.mono _ _ _ _ _
   | exact spec_l2Need.mono _ _
   | exact LeO.none _ | refine LeO.ite ?_ ?_ | refine LeO.bind ?_ (fun _ => ?_)
  ·intro y0 y1 y2 y3 y4 y5
   unfold spec_l2Kind.l0
   repeat' first
   | (with_reducible exact ih0 _ _ _ _)
   | (with_reducible exact ih1 _ _ _ _ _ _)
   | (with_reducible exact ih2 _ _ _ _ _ _ _ _ _ _)
   | (with_reducible exact ih3 _ _ _ _ _ _ _ _ _)
   | (with_reducible exact spec_l2N.mono _ _ _ _ _)
   | (with_reducible exact spec_l2Need.mono _ _)
   | (with_reducible first | exact LeO.refl _ | exact LeO.none _ | refine LeO.ite ?_ ?_ | refine LeO.bind ?_ (fun _ => ?_))
   | exact ih0 _ _ _ _
   | exact ih1 _ _ _ _ _ _
   | exact ih2 _ _ _ _ _ _ _ _ _ _
   | exact ih3 _ _ _ _ _ _ _ _ _
   | exact spec_l2N.mono _ _ _ _ _
   | exact spec_l2Need.mono _ _
   | exact LeO.none _ | refine LeO.ite ?_ ?_ | refine LeO.bind ?_ (fun _ => ?_)
  ·intro y0 y1 y2 y3 y4 y5 y6 y7 y8 y9
   unfold spec_l2Kind.j2
   repeat' first
   | (with_reducible exact ih0 _ _ _ _)
   | (with_reducible exact ih1 _ _ _ _ _ _)
   | (with_reducible exact ih2 _ _ _ _ _ _ _ _ _ _)
   | (with_reducible exact ih3 _ _ _ _ _ _ _ _ _)
   | (with_reducible exact spec_l2N.mono _ _ _ _ _)
   | (with_reducible exact spec_l2Need.mono _ _)
   | (with_reducible first | exact LeO.refl _ | exact LeO.none _ | refine LeO.ite ?_ ?_ | refine LeO.bind ?_ (fun _ => ?_))
   | exact ih0 _ _ _ _
   | exact ih1 _ _ _ _ _ _
   | exact ih2 _ _ _ _ _ _ _ _ _ _
   | exact ih3 _ _ _ _ _ _ _ _ _
   | exact spec_l2N.mono _ _ _ _ _
   | exact spec_l2Need.mono _ _
   | exact LeO.none _ | refine LeO.ite ?_ ?_ | refine LeO.bind ?_ (fun _ => ?_)
  ·intro y0 y1 y2 y3 y4 y5 y6 y7 y8
   unfold spec_l2Kind.l1
   repeat' first
   | (with_reducible exact ih0 _ _ _ _)
   | (with_reducible exact ih1 _ _ _ _ _ _)
   | (with_reducible exact ih2 _ _ _ _ _ _ _ _ _ _)
   | (with_reducible exact ih3 _ _ _ _ _ _ _ _ _)
   | (with_reducible exact spec_l2N.mono _ _ _ _ _)
   | (with_reducible exact spec_l2Need.mono _ _)
   | (with_reducible first | exact LeO.refl _ | exact LeO.none _ | refine LeO.ite ?_ ?_ | refine LeO.bind ?_ (fun _ => ?_))
   | exact ih0 _ _ _ _
   | exact ih1 _ _ _ _ _ _
   | exact ih2 _ _ _ _ _ _ _ _ _ _
   | exact ih3 _ _ _ _ _ _ _ _ _
   | exact spec_l2N.mono _ _ _ _ _
   | exact spec_l2Need.mono _ _
   | exact LeO.none _ | refine LeO.ite ?_ ?_ | refine LeO.bind ?_ (fun _ => ?_)
theorem spec_l2Kind.mono : ∀ a0 a1 a2 k, LeO (spec_l2Kind.f k a0 a1 a2) (spec_l2Kind.f (k + 1) a0 a1 a2) := by
 intro a0 a1 a2 k
 obtain ⟨ih0, ih1, ih2, ih3⟩ := spec_l2Kind.mono_l k
 unfold spec_l2Kind.f
 repeat' first
   | (with_reducible exact ih0 _ _ _ _)
   | (with_reducible exact ih1 _ _ _ _ _ _)
   | (with_reducible exact ih2 _ _ _ _ _ _ _ _ _ _)
   | (with_reducible exact ih3 _ _ _ _ _ _ _ _ _)
   | (with_reducible exact spec_l2N.mono _ _ _ _ _)
   | (with_reducible exact spec_l2Need.mono _ _)
   | (with_reducible first | exact LeO.refl _ | exact LeO.none _ | refine LeO.ite ?_ ?_ | refine LeO.bind ?_ (fun _ => ?_))
   | exact ih0 _ _ _ _
   | exact ih1 _ _ _ _ _ _
   | exact ih2 _ _ _ _ _ _ _ _ _ _
   | exact ih3 _ _ _ _ _ _ _ _ _
   | exact spec_l2N.mono _ _ _ _ _
   | exact spec_l2Need.mono _ _
   | exact LeO.none _ | refine LeO.ite ?_ ?_ | refine LeO.bind ?_ (fun _ => ?_)
set_option maxHeartbeats 8000000 in
set_option maxRecDepth 100000 in
theorem spec_l2Kind.calls (k : Nat) (a0 : Int) (a1 : Int) (A2 : Option Addr) (c2 : Nat) (l2 : List (S63)) (r : Int) (w : World) (hr2 : Kd.C k63 w A2 l2.length l2) (hc2 : l2.length ≤ c2) (h : spec_l2Kind.f k a0 a1 l2 = some r) :
  Calls Try.prog 91 #[.int .i64 a0, .int .i64 a1, .slice A2 l2.length c2] w fun e w' => e = .returned (.int .i64 r) ∧ Below w.heap.size w w' := by
 have hu63 := Try.underlying63
 have HR2 := Aside0.mk hr2
 have HC2 := Aside0.mk hc2
 clear hr2 hc2
 have HB := Aside0.mk (Below.refl w.heap.size w)
 have H : ((spec_l1Wide.f a0).bind fun t108 => (if t108 = true then ((spec_l1In.f a1 1 4).bind fun t109 => (if t109 = true then ((spec_l1In.f (l2.length : Int) 1 48).bind fun t110 => (spec_l2Kind.j0 k a0 a1 l2 (!t110))) else (spec_l2Kind.j0 k a0 a1 l2 true))) else (spec_l2Kind.j0 k a0 a1 l2 true))) = some r := h
 clear h
 have HC4 := Aside0.mk H
 clear H
 go_enter Try.func91, Try.ntmps91
 go_upto_region 1 with (fail)
 go_cut [26] (fun v26 wc => ∃ (kq : Nat) (x26_3 : Bool), v26 = .bool x26_3 ∧ Aside0 (spec_l2Kind.j0 kq a0 a1 l2 x26_3 = some r) ∧ Aside0 (kq ≤ k) ∧ Aside0 (Below w.heap.size w wc))
 case first =>
  have H := HC4.out
  clear HC4
  replace H := Option.bind_eq_some_iff.mp H
  obtain ⟨t108, A50, H⟩ := H
  replace H : (if t108 = true then ((spec_l1In.f a1 1 4).bind fun t109 => (if t109 = true then ((spec_l1In.f (l2.length : Int) 1 48).bind fun t110 => (spec_l2Kind.j0 k a0 a1 l2 (!t110))) else (spec_l2Kind.j0 k a0 a1 l2 true))) else (spec_l2Kind.j0 k a0 a1 l2 true)) = some r := H
  have A5 := Aside0.mk A50
  clear A50
  by_cases c6 : t108 = true
  ·subst c6
   have H1 : ((spec_l1In.f a1 1 4).bind fun t109 => (if t109 = true then ((spec_l1In.f (l2.length : Int) 1 48).bind fun t110 => (spec_l2Kind.j0 k a0 a1 l2 (!t110))) else (spec_l2Kind.j0 k a0 a1 l2 true))) = some r := by rw [if_pos rfl] at H; exact H
   clear H
   have H := H1
   clear H1
   replace H := Option.bind_eq_some_iff.mp H
   obtain ⟨t109, A70, H⟩ := H
   replace H : (if t109 = true then ((spec_l1In.f (l2.length : Int) 1 48).bind fun t110 => (spec_l2Kind.j0 k a0 a1 l2 (!t110))) else (spec_l2Kind.j0 k a0 a1 l2 true)) = some r := H
   have A7 := Aside0.mk A70
   clear A70
   by_cases c8 : t109 = true
   ·subst c8
    have H1 : ((spec_l1In.f (l2.length : Int) 1 48).bind fun t110 => (spec_l2Kind.j0 k a0 a1 l2 (!t110))) = some r := by rw [if_pos rfl] at H; exact H
    clear H
    have H := H1
    clear H1
    replace H := Option.bind_eq_some_iff.mp H
    obtain ⟨t110, A90, H⟩ := H
    replace H : (spec_l2Kind.j0 k a0 a1 l2 (!t110)) = some r := H
    have A9 := Aside0.mk A90
    clear A90
    have H' := Aside0.mk H
    clear H
    go_wp2_with (first | ((with_reducible refine gate_callee (f := 109) rfl ?_); refine goesL_ (some 14) rfl rfl Try.func109 (by kernel_rfl) rfl #[.int .i64 a0] rfl qG ?_; (with_reducible refine (spec_l1Wide.calls a0 true _ A5.out).mono ?_); rintro e w' ⟨rfl, ⟨nd, rfl⟩⟩; refine ⟨_, rfl, ?_⟩) | (go_at_call 56; (with_reducible refine (spec_l1In.calls a1 1 4 true _ A7.out).mono ?_); rintro e w' ⟨rfl, ⟨nd, rfl⟩⟩) | (go_at_call 56; (with_reducible refine (spec_l1In.calls (l2.length : Int) 1 48 t110 _ A9.out).mono ?_); rintro e w' ⟨rfl, ⟨nd, rfl⟩⟩))
    go_meet
    case rel => exact ⟨_, (!t110), qS, H', ⟨by first | omega | exact Nat.le_refl _⟩, ⟨qB⟩⟩
   ·replace c8 := Bool.eq_false_iff.mpr c8
    subst c8
    have H1 : (spec_l2Kind.j0 k a0 a1 l2 true) = some r := by rw [if_neg (show ¬ (false = true) by decide)] at H; exact H
    clear H
    have H := H1
    clear H1
    have H' := Aside0.mk H
    clear H
    go_wp2_with (first | ((with_reducible refine gate_callee (f := 109) rfl ?_); refine goesL_ (some 14) rfl rfl Try.func109 (by kernel_rfl) rfl #[.int .i64 a0] rfl qG ?_; (with_reducible refine (spec_l1Wide.calls a0 true _ A5.out).mono ?_); rintro e w' ⟨rfl, ⟨nd, rfl⟩⟩; refine ⟨_, rfl, ?_⟩) | (go_at_call 56; (with_reducible refine (spec_l1In.calls a1 1 4 false _ A7.out).mono ?_); rintro e w' ⟨rfl, ⟨nd, rfl⟩⟩))
    go_meet
    case rel => exact ⟨_, (true), qS, H', ⟨by first | omega | exact Nat.le_refl _⟩, ⟨qB⟩⟩
  ·replace c6 := Bool.eq_false_iff.mpr c6
   subst c6
   have H1 : (spec_l2Kind.j0 k a0 a1 l2 true) = some r := by rw [if_neg (show ¬ (false = true) by decide)] at H; exact H
   clear H
   have H := H1
   clear H1
   have H' := Aside0.mk H
   clear H
   go_wp2_with (first | ((with_reducible refine gate_callee (f := 109) rfl ?_); refine goesL_ (some 14) rfl rfl Try.func109 (by kernel_rfl) rfl #[.int .i64 a0] rfl qG ?_; (with_reducible refine (spec_l1Wide.calls a0 false _ A5.out).mono ?_); rintro e w' ⟨rfl, ⟨nd, rfl⟩⟩; refine ⟨_, rfl, ?_⟩))
   go_meet
   case rel => exact ⟨_, (true), qS, H', ⟨by first | omega | exact Nat.le_refl _⟩, ⟨qB⟩⟩
 case rest =>
  clear HC4
  try clear c1
  try clear c2
  try clear p2
  try clear c6
  try clear c8
  try clear c9
  obtain ⟨kq, x26_3, rfl, HA, HJ3, HB⟩ := hcut
  cases kq with
  | zero => exact absurd HA.out (by simp [spec_l2Kind.j0])
  | succ kj3 =>
   have H := HA.out
   clear HA
   simp only [spec_l2Kind.j0] at H
   by_cases c10 : x26_3 = true
   ·subst c10
    have H1 : (some 0) = some r := by rw [if_pos rfl] at H; exact H
    clear H
    have H := H1
    clear H1
    obtain rfl := Option.some.inj H
    go_wp2
    go_ret
    exact ⟨qE, qB⟩
   ·replace c10 := Bool.eq_false_iff.mpr c10
    subst c10
    have H1 : (spec_l2Kind.l0 kj3 a0 a1 ([] : List Int) l2 (l2.length : Int) 0) = some r := by rw [if_neg (show ¬ (false = true) by decide)] at H; exact H
    clear H
    have H := H1
    clear H1
    have H' := Aside0.mk H
    clear H
    go_wp2
    go_loopg [7, 29] kj3 (fun kq v7 v29 w' => ∃ (x7_2 : List Int) (x29_2 : Int), v29 = .int .i64 x29_2 ∧ Aside0 (spec_l2Kind.l0 kq a0 a1 x7_2 l2 (l2.length : Int) x29_2 = some r) ∧ Aside0 (kq ≤ kj3) ∧ Aside0 (Kd.R (Kd.int .i64) 3 w' w.heap.size (fun _ => True) v7 x7_2) ∧ Aside0 (Below w.heap.size w w'))
    case atStart => exact ⟨(([] : List Int)), (0), qS, H', ⟨Nat.le_refl _⟩, ⟨by first | exact Kd.R_nil _ _ _ _ _ | exact Kd.N_nil _ _ _ _ _ | exact Kd.V_nil _ _ _ _ _ | exact Kd.Q_nil _ _ _ _ _ | exact Kd.S_nil _ _ _ _ _⟩, ⟨qB⟩⟩
    case round =>
     clear H'
     try clear c1
     try clear c2
     try clear p2
     try clear c6
     try clear c8
     try clear c9
     try clear c10
     try clear p2
     obtain ⟨x7_2, x29_2, rfl, HA, HK2, HO_7, HB⟩ := hrel
     cases gk with
     | zero => exact absurd HA.out (by simp [spec_l2Kind.l0])
     | succ k2 =>
      have H := HA.out
      clear HA
      simp only [spec_l2Kind.l0] at H
      by_cases c11 : x29_2 < (l2.length : Int)
      ·rw [if_pos c11] at H
       have c11b0 : decide (x29_2 < (l2.length : Int)) = true := decide_eq_true c11
       clear c11
       by_cases c12 : 0 ≤ x29_2
       ·rw [if_pos c12] at H
        have c12b0 : decide (0 ≤ x29_2) = true := decide_eq_true c12
        clear c12
        by_cases c13 : x29_2 < (l2.length : Int)
        ·rw [if_pos c13] at H
         have c13b0 : decide (x29_2 < (l2.length : Int)) = true := decide_eq_true c13
         clear c13
         replace H := Option.bind_eq_some_iff.mp H
         obtain ⟨⟨t114, t115, t116⟩, A140, H⟩ := H
         replace H : (if t116 = 0 then (spec_l2Kind.j2 k2 a0 a1 x7_2 t114 t115 t116 l2 (l2.length : Int) x29_2 true) else ((spec_l2N.f k2 a0 a1 ((rd_T63 l2 x29_2).f0) ((rd_T63 l2 x29_2).f1)).bind fun t117 => (if t117 = true then (spec_l2Kind.j2 k2 a0 a1 x7_2 t114 t115 t116 l2 (l2.length : Int) x29_2 (decide ((x7_2.length : Int) < t114))) else (spec_l2Kind.j2 k2 a0 a1 x7_2 t114 t115 t116 l2 (l2.length : Int) x29_2 true)))) = some r := H
         have A14 := Aside0.mk A140
         clear A140
         have HC15 := Aside0.mk H
         clear H
         have p112 : 0 ≤ (x29_2 : Int) := qD
         have q112 : x29_2 < (l2.length : Int) := qD
         obtain ⟨ad112, e112, hx112_0, hx112_1⟩ := at_T63 HR2.out x29_2 p112 q112
         cases e112
         replace hx112_0 := (HB.out.cell (World.block_lt_of_cell? w _ hx112_0)).trans hx112_0
         replace hx112_1 := (HB.out.cell (World.block_lt_of_cell? w _ hx112_1)).trans hx112_1
         replace p112 := eq_true p112
         replace q112 := eq_true q112
         go_upto_region 8 with (first | ((with_reducible refine gate_dst (N := 9) rfl ?_); (try (refine gate_guard (by rfl) ?_; dsimp only)); refine box_event ?hg (N := 9) ?hd (cs := #[.int .i64 0, .int .u64 0]) (t := 63) ?hr ?_; (case hd => rfl); (case hg => rfl); (case hr => first | (go_simp; done) | (go_simp; rfl)); intro gb113 hg w16 hbox hb; have n0_ := Aside0.mk (Kd.R_below (qR HO_7.out) hb); have n1_ := Aside0.mk (below_step (qB) hb); have n2_ := Aside0.mk (hbox); have n3_ := Aside0.mk ((by rw [hg]; exact (below_size (qB)) : w.heap.size ≤ gb113)); have n4_ := Aside0.mk ((by rw [hg]; exact (below_size (qB)) : w.heap.size ≤ gb113)); clear HO_7; clear HB; have HO_7 := n0_; have HB := n1_; have BK113 := n2_; have GW113 := n3_; have GE113 := n4_; clear n0_ n1_ n2_ n3_ n4_; clear hb hbox hg; have hcz17_0 : w16.cell? ⟨gb113, 0, none⟩ = some (.int .i64 0) := (blk_cell BK113.out 0).trans rfl; have hcz17_1 : w16.cell? ⟨gb113, 1, none⟩ = some (.int .u64 0) := (blk_cell BK113.out 1).trans rfl; have hfz17_0 := blk_frozen BK113.out 0; have hfz17_1 := blk_frozen BK113.out 1) | ((with_reducible refine gate_callee (f := 61) rfl ?_); refine goesL_ (some 36) rfl rfl Try.func61 (by kernel_rfl) rfl #[.int .i64 ((rd_T63 l2 x29_2).f0)] rfl qG ?_; (with_reducible refine (spec_l2Need.calls k2 ((rd_T63 l2 x29_2).f0) t114 t115 t116 _ A14.out).mono ?_); rintro e w' ⟨rfl, ⟨nd, rfl⟩⟩; refine ⟨_, rfl, ?_⟩))
         (try simp only [Act.put, List.setIfInBounds_toArray, List.set_cons_zero, List.set_cons_succ])
         go_cut [54] (fun v54 wc => ∃ (kq : Nat) (x54_14 : Bool), v54 = .bool x54_14 ∧ Aside0 (spec_l2Kind.j2 kq a0 a1 x7_2 t114 t115 t116 l2 (l2.length : Int) x29_2 x54_14 = some r) ∧ Aside0 (kq ≤ k2) ∧ Aside0 (Kd.R (Kd.int .i64) 3 wc w.heap.size (fun _ => True) u7 x7_2) ∧ Aside0 (wc.heap[gb113]? = some (.cells #[.int .i64 ((rd_T63 l2 x29_2).f0), .int .u64 ((rd_T63 l2 x29_2).f1)] 63 (0, 0))) ∧ Aside0 (Below w.heap.size w wc))
         case first =>
          have H := HC15.out
          clear HC15
          by_cases c18 : t116 = 0
          ·rw [if_pos c18] at H
           have c18b0 : (t116 == 0) = true := beq_iff_eq.mpr c18
           have c18b1 : (t116 != 0) = false := bne_eq_false_iff_eq.mpr c18
           clear c18
           (first | rw [c18b0] | (simp only [i64_w, i32_w]; rw [c18b0]) | skip)
           have H' := Aside0.mk H
           clear H
           go_wp2
           go_meet
           case rel => exact ⟨_, (true), qS, H', ⟨by have := HJ3.out; have := HK2.out; first | omega | exact Nat.le_refl _⟩, ⟨by (with_reducible repeat (first | apply Kd.R_alloc | apply Kd.R_drewN | apply Kd.R_drew)); exact Kd.R_mono (Kd.R_far (p := ⟨gb113, 1, none⟩) (Kd.R_far (p := ⟨gb113, 0, none⟩) (Kd.R_types HO_7.out BK113.out (by decide)) (fun _ hk => hk.2) (.int .i64 ((rd_T63 l2 x29_2).f0))) (fun _ hk => hk.2) (.int .u64 ((rd_T63 l2 x29_2).f1))) (fun _ hk => trivial)⟩, ⟨by (with_reducible repeat (first | refine blk_drewN ?_ _ | refine blk_drew ?_ | refine blk_alloc ?_ _)); refine blk_put (cs := #[.int .i64 ((rd_T63 l2 x29_2).f0), .int .u64 0]) ?_ 1 _ rfl; refine blk_put (cs := #[.int .i64 0, .int .u64 0]) ?_ 0 _ rfl; exact qK BK113.out⟩, ⟨qB⟩⟩
          ·rw [if_neg c18] at H
           have c18b0 : (t116 == 0) = false := beq_eq_false_iff_ne.mpr c18
           have c18b1 : (t116 != 0) = true := bne_iff_ne.mpr c18
           (first | rw [c18b0] | (simp only [i64_w, i32_w]; rw [c18b0]) | skip)
           replace H := Option.bind_eq_some_iff.mp H
           obtain ⟨t117, A190, H⟩ := H
           replace H : (if t117 = true then (spec_l2Kind.j2 k2 a0 a1 x7_2 t114 t115 t116 l2 (l2.length : Int) x29_2 (decide ((x7_2.length : Int) < t114))) else (spec_l2Kind.j2 k2 a0 a1 x7_2 t114 t115 t116 l2 (l2.length : Int) x29_2 true)) = some r := H
           have A19 := Aside0.mk A190
           clear A190
           by_cases c20 : t117 = true
           ·subst c20
            have H1 : (spec_l2Kind.j2 k2 a0 a1 x7_2 t114 t115 t116 l2 (l2.length : Int) x29_2 (decide ((x7_2.length : Int) < t114))) = some r := by rw [if_pos rfl] at H; exact H
            clear H
            have H := H1
            clear H1
            have H' := Aside0.mk H
            clear H
            have hcz21_0 : w16.cell? ⟨gb113, 0, none⟩ = some (.int .i64 0) := (blk_cell BK113.out 0).trans rfl
            have hcz21_1 : w16.cell? ⟨gb113, 1, none⟩ = some (.int .u64 0) := (blk_cell BK113.out 1).trans rfl
            have hfz21_0 := blk_frozen BK113.out 0
            have hfz21_1 := blk_frozen BK113.out 1
            go_wp2_with (first | (go_at_call 115; (with_reducible refine (spec_l2N.calls k2 a0 a1 ((rd_T63 l2 x29_2).f0) ((rd_T63 l2 x29_2).f1) true _ A19.out).mono ?_); rintro e w22 ⟨rfl, hb⟩; have n0_ := Aside0.mk (Kd.R_below (by (with_reducible repeat (first | apply Kd.R_alloc | apply Kd.R_drewN | apply Kd.R_drew)); exact (Kd.R_mono (Kd.R_far (p := ⟨gb113, 1, none⟩) (Kd.R_far (p := ⟨gb113, 0, none⟩) (Kd.R_types HO_7.out BK113.out (by decide)) (fun _ hk => hk.2) (.int .i64 ((rd_T63 l2 x29_2).f0))) (fun _ hk => hk.2) (.int .u64 ((rd_T63 l2 x29_2).f1))) (fun _ h_ => h_.1))) hb); have n1_ := Aside0.mk (blk_below (g := gb113) (o := .cells #[.int .i64 ((rd_T63 l2 x29_2).f0), .int .u64 ((rd_T63 l2 x29_2).f1)] 63 (0, 0)) (by (with_reducible repeat (first | refine blk_drewN ?_ _ | refine blk_drew ?_ | refine blk_alloc ?_ _)); refine blk_put (cs := #[.int .i64 ((rd_T63 l2 x29_2).f0), .int .u64 0]) ?_ 1 _ rfl; refine blk_put (cs := #[.int .i64 0, .int .u64 0]) ?_ 0 _ rfl; exact qK BK113.out) hb); have n2_ := Aside0.mk (below_step (qB) hb); clear HO_7; clear BK113; clear HB; have HO_7 := n0_; have BK113 := n1_; have HB := n2_; clear n0_ n1_ n2_; (try clear hb); (try clear hb2); (try clear hk); (try clear hi); obtain ⟨Ao23, co23, eo23⟩ := Kd.R_slice HO_7.out; subst eo23))
            go_meet
            case rel => exact ⟨_, (decide ((x7_2.length : Int) < t114)), qS, H', ⟨by have := HJ3.out; have := HK2.out; first | omega | exact Nat.le_refl _⟩, ⟨qR HO_7.out⟩, ⟨by exact qK BK113.out⟩, ⟨qB⟩⟩
           ·replace c20 := Bool.eq_false_iff.mpr c20
            subst c20
            have H1 : (spec_l2Kind.j2 k2 a0 a1 x7_2 t114 t115 t116 l2 (l2.length : Int) x29_2 true) = some r := by rw [if_neg (show ¬ (false = true) by decide)] at H; exact H
            clear H
            have H := H1
            clear H1
            have H' := Aside0.mk H
            clear H
            have hcz24_0 : w16.cell? ⟨gb113, 0, none⟩ = some (.int .i64 0) := (blk_cell BK113.out 0).trans rfl
            have hcz24_1 : w16.cell? ⟨gb113, 1, none⟩ = some (.int .u64 0) := (blk_cell BK113.out 1).trans rfl
            have hfz24_0 := blk_frozen BK113.out 0
            have hfz24_1 := blk_frozen BK113.out 1
            go_wp2_with (first | (go_at_call 115; (with_reducible refine (spec_l2N.calls k2 a0 a1 ((rd_T63 l2 x29_2).f0) ((rd_T63 l2 x29_2).f1) false _ A19.out).mono ?_); rintro e w25 ⟨rfl, hb⟩; have n0_ := Aside0.mk (Kd.R_below (by (with_reducible repeat (first | apply Kd.R_alloc | apply Kd.R_drewN | apply Kd.R_drew)); exact (Kd.R_mono (Kd.R_far (p := ⟨gb113, 1, none⟩) (Kd.R_far (p := ⟨gb113, 0, none⟩) (Kd.R_types HO_7.out BK113.out (by decide)) (fun _ hk => hk.2) (.int .i64 ((rd_T63 l2 x29_2).f0))) (fun _ hk => hk.2) (.int .u64 ((rd_T63 l2 x29_2).f1))) (fun _ h_ => h_.1))) hb); have n1_ := Aside0.mk (blk_below (g := gb113) (o := .cells #[.int .i64 ((rd_T63 l2 x29_2).f0), .int .u64 ((rd_T63 l2 x29_2).f1)] 63 (0, 0)) (by (with_reducible repeat (first | refine blk_drewN ?_ _ | refine blk_drew ?_ | refine blk_alloc ?_ _)); refine blk_put (cs := #[.int .i64 ((rd_T63 l2 x29_2).f0), .int .u64 0]) ?_ 1 _ rfl; refine blk_put (cs := #[.int .i64 0, .int .u64 0]) ?_ 0 _ rfl; exact qK BK113.out) hb); have n2_ := Aside0.mk (below_step (qB) hb); clear HO_7; clear BK113; clear HB; have HO_7 := n0_; have BK113 := n1_; have HB := n2_; clear n0_ n1_ n2_; (try clear hb); (try clear hb2); (try clear hk); (try clear hi)))
            go_meet
            case rel => exact ⟨_, (true), qS, H', ⟨by have := HJ3.out; have := HK2.out; first | omega | exact Nat.le_refl _⟩, ⟨qR HO_7.out⟩, ⟨by exact qK BK113.out⟩, ⟨qB⟩⟩
         case rest =>
          clear HC15
          try clear c1
          try clear p1
          try clear q1
          try clear hx1
          try clear c2
          try clear p2
          try clear c6
          try clear c8
          try clear c9
          try clear c10
          try clear c11
          try clear c11b0
          try clear p11
          try clear q11
          try clear hx11
          try clear c12
          try clear c12b0
          try clear c13
          try clear c13b0
          try clear c18
          try clear c18b0
          try clear c18b1
          try clear c20
          try clear hcz17_0
          try clear hcz17_1
          try clear hcz21_0
          try clear hcz21_1
          try clear hcz24_0
          try clear hcz24_1
          try clear hfz17_0
          try clear hfz17_1
          try clear hfz21_0
          try clear hfz21_1
          try clear hfz24_0
          try clear hfz24_1
          try clear hx112_0
          try clear hx112_1
          try clear p112
          try clear p2
          try clear q112
          obtain ⟨kq, x54_14, rfl, HA, HJ14, HO_7, BK113, HB⟩ := hcut
          cases kq with
          | zero => exact absurd HA.out (by simp [spec_l2Kind.j2])
          | succ kj14 =>
           have H := HA.out
           clear HA
           simp only [spec_l2Kind.j2] at H
           by_cases c26 : x54_14 = true
           ·subst c26
            have H1 : (some 0) = some r := by rw [if_pos rfl] at H; exact H
            clear H
            have H := H1
            clear H1
            obtain rfl := Option.some.inj H
            go_wp2
            go_ret
            exact ⟨qE, qB⟩
           ·replace c26 := Bool.eq_false_iff.mpr c26
            subst c26
            have H1 : (spec_l2Kind.l1 kj14 a0 a1 x7_2 t114 t115 t116 l2 (l2.length : Int) x29_2) = some r := by rw [if_neg (show ¬ (false = true) by decide)] at H; exact H
            clear H
            have H := H1
            clear H1
            have H' := Aside0.mk H
            clear H
            go_wp2
            go_loopg [7, 10] kj14 (fun kq v7 v10 w' => ∃ (x7_4 : List Int) (x10_4 : Int), v10 = .int .i64 x10_4 ∧ Aside0 (spec_l2Kind.l1 kq a0 a1 x7_4 x10_4 t115 t116 l2 (l2.length : Int) x29_2 = some r) ∧ Aside0 (kq ≤ kj14) ∧ Aside0 (Kd.R (Kd.int .i64) 3 w' w.heap.size (fun _ => True) v7 x7_4) ∧ Aside0 (w'.heap[gb113]? = some (.cells #[.int .i64 ((rd_T63 l2 x29_2).f0), .int .u64 ((rd_T63 l2 x29_2).f1)] 63 (0, 0))) ∧ Aside0 (Below w.heap.size w w'))
            case atStart => exact ⟨(x7_2), (t114), qS, H', ⟨Nat.le_refl _⟩, ⟨qR HO_7.out⟩, ⟨by exact qK BK113.out⟩, ⟨qB⟩⟩
            case round =>
             clear H'
             try clear c1
             try clear p1
             try clear q1
             try clear hx1
             try clear c2
             try clear p2
             try clear c6
             try clear c8
             try clear c9
             try clear c10
             try clear c11
             try clear c11b0
             try clear p11
             try clear q11
             try clear hx11
             try clear c12
             try clear c12b0
             try clear c13
             try clear c13b0
             try clear c18
             try clear c18b0
             try clear c18b1
             try clear c20
             try clear c26
             try clear hcz17_0
             try clear hcz17_1
             try clear hcz21_0
             try clear hcz21_1
             try clear hcz24_0
             try clear hcz24_1
             try clear hfz17_0
             try clear hfz17_1
             try clear hfz21_0
             try clear hfz21_1
             try clear hfz24_0
             try clear hfz24_1
             try clear hx112_0
             try clear hx112_1
             try clear p1
             try clear p11
             try clear p112
             try clear p2
             try clear q1
             try clear q11
             try clear q112
             obtain ⟨x7_4, x10_4, rfl, HA, HK4, HO_7, BK113, HB⟩ := hrel
             cases gk with
             | zero => exact absurd HA.out (by simp [spec_l2Kind.l1])
             | succ k4 =>
              have H := HA.out
              clear HA
              simp only [spec_l2Kind.l1] at H
              by_cases c27 : x10_4 > 0
              ·rw [if_pos c27] at H
               have c27b0 : decide (0 < x10_4) = true := decide_eq_true c27
               clear c27
               obtain ⟨ji28, hji28⟩ : ∃ j_ : Int, (wrap64 ((x7_4.length : Int) - 1)) = j_ := ⟨_, rfl⟩
               replace H : (if 0 ≤ (ji28) then (if (ji28) < (x7_4.length : Int) then (if (rd x7_4 (ji28)) = t115 then (if (ji28) ≤ (x7_4.length : Int) then (spec_l2Kind.l1 k4 a0 a1 (x7_4.take ((ji28) : Int).toNat) (wrap64 (x10_4 - 1)) t115 t116 l2 (l2.length : Int) x29_2) else (none)) else (some 0)) else (none)) else (none)) = some r := by first | (rw [hji28] at H; exact H) | (simp only [hji28] at H ⊢; exact H)
               have hji28w : (IntKind.i64.wrap ((x7_4.length : Int) - 1)) = ji28 := (i64_w _).trans hji28
               by_cases c29 : 0 ≤ (ji28)
               ·rw [if_pos c29] at H
                have c29b0 : decide (0 ≤ (ji28)) = true := decide_eq_true c29
                clear c29
                by_cases c30 : (ji28) < (x7_4.length : Int)
                ·rw [if_pos c30] at H
                 have c30b0 : decide ((ji28) < (x7_4.length : Int)) = true := decide_eq_true c30
                 clear c30
                 by_cases c31 : (rd x7_4 (ji28)) = t115
                 ·rw [if_pos c31] at H
                  have c31b0 : ((rd x7_4 (ji28)) == t115) = true := beq_iff_eq.mpr c31
                  have c31b1 : ((rd x7_4 (ji28)) != t115) = false := bne_eq_false_iff_eq.mpr c31
                  clear c31
                  by_cases c32 : (ji28) ≤ (x7_4.length : Int)
                  ·rw [if_pos c32] at H
                   have c32b0 := eq_true c32
                   have c32b1 : decide ((ji28) ≤ (x7_4.length : Int)) = true := decide_eq_true c32
                   clear c32
                   obtain ⟨y119, hy119⟩ : ∃ y_ : List Int, y_ = (x7_4.take ((ji28) : Int).toNat) := ⟨_, rfl⟩
                   replace H : (spec_l2Kind.l1 k4 a0 a1 y119 (wrap64 (x10_4 - 1)) t115 t116 l2 (l2.length : Int) x29_2) = some r := qY hy119 H
                   have Ny119 := Aside0.mk hy119
                   clear hy119
                   have H' := Aside0.mk H
                   clear H
                   obtain ⟨Ao33, co33, eo33⟩ := Kd.R_slice HO_7.out
                   subst eo33
                   have p118 : 0 ≤ ((ji28) : Int) := qD
                   have q118 : (ji28) < (x7_4.length : Int) := qD
                   obtain ⟨ad118, e118, hx118_0⟩ := Kd.at_int (Kd.R_reads' HO_7.out).2.2 (ji28) p118 q118
                   cases e118
                   replace p118 := eq_true p118
                   replace q118 := eq_true q118
                   have q34 : ((ji28) : Int) ≤ ((x7_4.length : Int) : Int) := qD
                   obtain ⟨i034, hi034, _, hsz34, _⟩ := info_parts info3
                   have hcut34 := cut_to (P := Try.prog) 25 3 .i64 Try.underlying25 hi034 (some ad118) x7_4.length co33 (ji28) qD q34 (Kd.R_reads' HO_7.out).2.1
                   have hr34 := Kd.R_take (m := ((ji28) : Int).toNat) HO_7.out (by omega)
                   have hy34 : y119.length = ((ji28) : Int).toNat := (by rw [Ny119.out, List.length_take]; omega)
                   rw [← Ny119.out] at hr34
                   rw [← hy34] at hr34 hcut34
                   clear hy34 hi034 hsz34 HO_7
                   have HO121 := Aside0.mk hr34
                   clear hr34
                   replace q34 := eq_true q34
                   go_wp2
                   go_roundg k4
                   case measure => have := HJ3.out; have := HK2.out; have := HJ14.out; have := HK4.out; omega
                   case rel => exact ⟨(y119), (wrap64 (x10_4 - 1)), qS, H', ⟨by have := HJ3.out; have := HK2.out; have := HJ14.out; have := HK4.out; omega⟩, ⟨qR HO121.out⟩, ⟨by exact qK BK113.out⟩, ⟨qB⟩⟩
                  ·rw [if_neg c32] at H
                   exact absurd H (by simp)
                 ·rw [if_neg c31] at H
                  have c31b0 : ((rd x7_4 (ji28)) == t115) = false := beq_eq_false_iff_ne.mpr c31
                  have c31b1 : ((rd x7_4 (ji28)) != t115) = true := bne_iff_ne.mpr c31
                  obtain rfl := Option.some.inj H
                  obtain ⟨Ao35, co35, eo35⟩ := Kd.R_slice HO_7.out
                  subst eo35
                  have p118 : 0 ≤ ((ji28) : Int) := qD
                  have q118 : (ji28) < (x7_4.length : Int) := qD
                  obtain ⟨ad118, e118, hx118_0⟩ := Kd.at_int (Kd.R_reads' HO_7.out).2.2 (ji28) p118 q118
                  cases e118
                  replace p118 := eq_true p118
                  replace q118 := eq_true q118
                  go_wp2
                  go_ret
                  exact ⟨by first | rfl | (simp [errW_none, errW_some] <;> rfl) | (simp only [← hji28]; first | rfl | (simp [errW_none, errW_some] <;> rfl)) | (simp [*, errW_none, errW_some] <;> rfl), qB⟩
                ·rw [if_neg c30] at H
                 exact absurd H (by simp)
               ·rw [if_neg c29] at H
                exact absurd H (by simp)
              ·rw [if_neg c27] at H
               have c27b0 : decide (0 < x10_4) = false := decide_eq_false c27
               clear c27
               by_cases c36 : x7_4.length < 17592186044416
               ·rw [if_pos c36] at H
                have LMc36 := Aside0.mk c36
                clear c36
                obtain ⟨y122, hy122⟩ : ∃ y_ : List Int, y_ = (x7_4 ++ [t116]) := ⟨_, rfl⟩
                replace H : (spec_l2Kind.l0 k4 a0 a1 y122 l2 (l2.length : Int) (wrap64 (x29_2 + 1))) = some r := qY hy122 H
                have Ny122 := Aside0.mk hy122
                clear hy122
                have H' := Aside0.mk H
                clear H
                go_wp2_with (first | ((with_reducible refine gate_builtin (b := .append) (xs := #[.tmp 72, .tmp 74]) rfl ?_); (try (refine gate_guard (by rfl) ?_; dsimp only)); at_builtin; refine Kd.R_append (Kd.int .i64) (w0 := w) w.heap.size rfl (.tmp 72) (.tmp 74) 25 3 (.int .i64 0) 8 rfl Try.underlying25 info3 rfl (by decide) (by omega) u7 x7_4 t116 [.int .i64 t116] (fun _ => True) (fun _ => False) rfl rfl ?aP (fun _ hk => hk.elim) ?aF ?aO ?aB ?aS ?aL ?_; (case aP => exact rfl); (case aB => exact (qB)); (case aF => exact (fun _ _ => trivial)); (case aO => exact (qR HO_7.out)); (case aS => exact (below_size (qB))); (case aL => have := LMc36.out; omega); intro v123 w37 ho hb hg hat; rw [← Ny122.out] at ho; have n0_ := Aside0.mk (blk_grown (g := gb113) (o := .cells #[.int .i64 ((rd_T63 l2 x29_2).f0), .int .u64 ((rd_T63 l2 x29_2).f1)] 63 (0, 0)) (qK BK113.out) hg (Kd.R_ne HO_7.out BK113.out (by decide))); have n1_ := Aside0.mk (hb); have n2_ := Aside0.mk (ho); clear BK113; clear HB; clear HO_7; have BK113 := n0_; have HB := n1_; have HO124 := n2_; clear n0_ n1_ n2_; clear ho hb hg hat))
                go_roundg k4
                case measure => have := HJ3.out; have := HK2.out; have := HJ14.out; have := HK4.out; omega
                case rel => exact ⟨(y122), (wrap64 (x29_2 + 1)), qS, H', ⟨by have := HJ3.out; have := HK2.out; have := HJ14.out; have := HK4.out; omega⟩, ⟨qR HO124.out⟩, ⟨qB⟩⟩
               ·rw [if_neg c36] at H
                exact absurd H (by simp)
        ·rw [if_neg c13] at H
         exact absurd H (by simp)
       ·rw [if_neg c12] at H
        exact absurd H (by simp)
      ·rw [if_neg c11] at H
       have c11b0 : decide (x29_2 < (l2.length : Int)) = false := decide_eq_false c11
       clear c11
       by_cases c38 : (x7_2.length : Int) = 1
       ·rw [if_pos c38] at H
        have c38b0 : ((x7_2.length : Int) == 1) = true := beq_iff_eq.mpr c38
        have c38b1 : ((x7_2.length : Int) != 1) = false := bne_eq_false_iff_eq.mpr c38
        clear c38
        by_cases c39 : 0 < (x7_2.length : Int)
        ·rw [if_pos c39] at H
         have c39b0 : decide (0 < (x7_2.length : Int)) = true := decide_eq_true c39
         have c39b1 : decide (0 < x7_2.length) = true := decide_eq_true (by omega)
         clear c39
         obtain rfl := Option.some.inj H
         obtain ⟨Ao40, co40, eo40⟩ := Kd.R_slice HO_7.out
         subst eo40
         have p111 : 0 ≤ (0 : Int) := (by omega)
         have q111 : 0 < (x7_2.length : Int) := qD
         obtain ⟨ad111, e111, hx111_0⟩ := Kd.at_int (Kd.R_reads' HO_7.out).2.2 0 p111 q111
         cases e111
         have qi111 : (0 < x7_2.length) = True := eq_true (by omega)
         (try rw [show ((0 : Int)).toNat = 0 from rfl] at hx111_0)
         (try rw [Addr.add_zero'] at hx111_0)
         replace p111 := eq_true p111
         replace q111 := eq_true q111
         go_wp2
         go_ret
         exact ⟨qE, qB⟩
        ·rw [if_neg c39] at H
         exact absurd H (by simp)
       ·rw [if_neg c38] at H
        have c38b0 : ((x7_2.length : Int) == 1) = false := beq_eq_false_iff_ne.mpr c38
        have c38b1 : ((x7_2.length : Int) != 1) = true := bne_iff_ne.mpr c38
        obtain rfl := Option.some.inj H
        obtain ⟨Ao41, co41, eo41⟩ := Kd.R_slice HO_7.out
        subst eo41
        go_wp2
        go_ret
        exact ⟨qE, qB⟩


/-! ### spec_GoodTerm: function 60 -/
def spec_GoodTerm.f (k : Nat) (a0 : Int) (a1 : Int) (l2 : List (S63)) : Option (Bool) := (spec_l2Kind.f k a0 a1 l2).bind fun t125 => (some (decide (t125 > 0)))
theorem spec_GoodTerm.mono : ∀ a0 a1 a2 k, LeO (spec_GoodTerm.f k a0 a1 a2) (spec_GoodTerm.f (k + 1) a0 a1 a2) := by
 intro a0 a1 a2 k
 unfold spec_GoodTerm.f
 repeat' first
   | (with_reducible exact spec_l2Kind.mono _ _ _ _)
   | (with_reducible first | exact LeO.refl _ | exact LeO.none _ | refine LeO.ite ?_ ?_ | refine LeO.bind ?_ (fun _ => ?_))
   | exact spec_l2Kind.mono _ _ _ _
   | exact LeO.none _ | refine LeO.ite ?_ ?_ | refine LeO.bind ?_ (fun _ => ?_)
set_option maxHeartbeats 8000000 in
set_option maxRecDepth 100000 in
theorem spec_GoodTerm.calls (k : Nat) (a0 : Int) (a1 : Int) (A2 : Option Addr) (c2 : Nat) (l2 : List (S63)) (r : Bool) (w : World) (hr2 : Kd.C k63 w A2 l2.length l2) (hc2 : l2.length ≤ c2) (h : spec_GoodTerm.f k a0 a1 l2 = some r) :
  Calls Try.prog 60 #[.int .i64 a0, .int .i64 a1, .slice A2 l2.length c2] w fun e w' => e = .returned (.bool r) ∧ Below w.heap.size w w' := by
 have HR2 := Aside0.mk hr2
 have HC2 := Aside0.mk hc2
 clear hr2 hc2
 have HB := Aside0.mk (Below.refl w.heap.size w)
 have H : ((spec_l2Kind.f k a0 a1 l2).bind fun t125 => (some (decide (t125 > 0)))) = some r := h
 clear h
 replace H := Option.bind_eq_some_iff.mp H
 obtain ⟨t125, A40, H⟩ := H
 replace H : (some (decide (t125 > 0))) = some r := H
 have A4 := Aside0.mk A40
 clear A40
 obtain rfl := Option.some.inj H
 go_enter Try.func60, Try.ntmps60
 go_wp2_with (first | ((with_reducible refine gate_callee (f := 91) rfl ?_); refine goesL_ (some 10) rfl rfl Try.func91 (by kernel_rfl) rfl #[.int .i64 a0, .int .i64 a1, .slice A2 l2.length c2] rfl qG ?_; (with_reducible refine (spec_l2Kind.calls k a0 a1 _ _ l2 t125 _ ?side1 ?side2 A4.out).mono ?_); (case side1 => exact qC HR2.out); (case side2 => exact HC2.out); rintro e w5 ⟨rfl, hb⟩; refine ⟨_, rfl, ?_⟩; have n0_ := Aside0.mk (below_step (qB) hb); clear HB; have HB := n0_; clear n0_; (try clear hb); (try clear hb2); (try clear hk); (try clear hi)))
 go_ret
 exact ⟨qE, qB⟩

/-! ### spec_IsPlain: function 33 -/
def spec_IsPlain.l0 : Nat → List (S63) → Int → Int → Option (Bool × Bool)
 | 0, _, _, _ => none
 | k + 1, x15, x16, x17 => if x17 < x16 then (if 0 ≤ x17 then (if x17 < (x15.length : Int) then (if ((rd_T63 x15 x17).f0) = 6 then (some (false, true)) else (if ((rd_T63 x15 x17).f0) = 7 then (some (false, true)) else (if ((rd_T63 x15 x17).f0) = 11 then (some (false, true)) else (if ((rd_T63 x15 x17).f0) = 12 then (some (false, true)) else (spec_IsPlain.l0 k x15 x16 (wrap64 (x17 + 1))))))) else (none)) else (none)) else (some (true, true))
def spec_IsPlain.f (k : Nat) (a0 : Int) (a1 : Int) (l2 : List (S63)) : Option (Bool × Bool) := (spec_GoodTerm.f k a0 a1 l2).bind fun t126 => (if t126 = true then (spec_IsPlain.l0 k l2 (l2.length : Int) 0) else (some (false, false)))
theorem spec_IsPlain.mono_l : ∀ k, (∀ y0 y1 y2, LeO (spec_IsPlain.l0 k y0 y1 y2) (spec_IsPlain.l0 (k + 1) y0 y1 y2))
 | 0 => fun _ _ _ r h => by simp [spec_IsPlain.l0] at h
 | k + 1 => by
  have ih0 := spec_IsPlain.mono_l k
  ·intro y0 y1 y2
   unfold spec_IsPlain.l0
   repeat' first
   | (with_reducible exact ih0 _ _ _)
   | (with_reducible exact spec_GoodTerm.mono _ _ _ _)
   | (with_reducible first | exact LeO.refl _ | exact LeO.none _ | refine LeO.ite ?_ ?_ | refine LeO.bind ?_ (fun _ => ?_))
   | exact ih0 _ _ _
   | exact spec_GoodTerm.mono _ _ _ _
   | exact LeO.none _ | refine LeO.ite ?_ ?_ | refine LeO.bind ?_ (fun _ => ?_)
theorem spec_IsPlain.mono : ∀ a0 a1 a2 k, LeO (spec_IsPlain.f k a0 a1 a2) (spec_IsPlain.f (k + 1) a0 a1 a2) := by
 intro a0 a1 a2 k
 have ih0 := spec_IsPlain.mono_l k
 unfold spec_IsPlain.f
 repeat' first
   | (with_reducible exact ih0 _ _ _)
   | (with_reducible exact spec_GoodTerm.mono _ _ _ _)
   | (with_reducible first | exact LeO.refl _ | exact LeO.none _ | refine LeO.ite ?_ ?_ | refine LeO.bind ?_ (fun _ => ?_))
   | exact ih0 _ _ _
   | exact spec_GoodTerm.mono _ _ _ _
   | exact LeO.none _ | refine LeO.ite ?_ ?_ | refine LeO.bind ?_ (fun _ => ?_)
set_option maxHeartbeats 8000000 in
set_option maxRecDepth 100000 in
theorem spec_IsPlain.calls (k : Nat) (a0 : Int) (a1 : Int) (A2 : Option Addr) (c2 : Nat) (l2 : List (S63)) (r1 : Bool) (r2 : Bool) (w : World) (hr2 : Kd.C k63 w A2 l2.length l2) (hc2 : l2.length ≤ c2) (h : spec_IsPlain.f k a0 a1 l2 = some (r1, r2)) :
  Calls Try.prog 33 #[.int .i64 a0, .int .i64 a1, .slice A2 l2.length c2] w fun e w' => e = .returned (.tuple #[.bool r1, .bool r2]) ∧ Below w.heap.size w w' := by
 have hu63 := Try.underlying63
 have HR2 := Aside0.mk hr2
 have HC2 := Aside0.mk hc2
 clear hr2 hc2
 have HB := Aside0.mk (Below.refl w.heap.size w)
 have H : ((spec_GoodTerm.f k a0 a1 l2).bind fun t126 => (if t126 = true then (spec_IsPlain.l0 k l2 (l2.length : Int) 0) else (some (false, false)))) = some (r1, r2) := h
 clear h
 replace H := Option.bind_eq_some_iff.mp H
 obtain ⟨t126, A40, H⟩ := H
 replace H : (if t126 = true then (spec_IsPlain.l0 k l2 (l2.length : Int) 0) else (some (false, false))) = some (r1, r2) := H
 have A4 := Aside0.mk A40
 clear A40
 by_cases c5 : t126 = true
 ·subst c5
  have H1 : (spec_IsPlain.l0 k l2 (l2.length : Int) 0) = some (r1, r2) := by rw [if_pos rfl] at H; exact H
  clear H
  have H := H1
  clear H1
  have H' := Aside0.mk H
  clear H
  go_enter Try.func33, Try.ntmps33
  go_wp2_with (first | ((with_reducible refine gate_callee (f := 60) rfl ?_); refine goesL_ (some 13) rfl rfl Try.func60 (by kernel_rfl) rfl #[.int .i64 a0, .int .i64 a1, .slice A2 l2.length c2] rfl qG ?_; (with_reducible refine (spec_GoodTerm.calls k a0 a1 _ _ l2 true _ ?side1 ?side2 A4.out).mono ?_); (case side1 => exact qC HR2.out); (case side2 => exact HC2.out); rintro e w6 ⟨rfl, hb⟩; refine ⟨_, rfl, ?_⟩; have n0_ := Aside0.mk (below_step (qB) hb); clear HB; have HB := n0_; clear n0_; (try clear hb); (try clear hb2); (try clear hk); (try clear hi)))
  go_loopg [17] k (fun kq v17 w' => ∃ (x17_1 : Int), v17 = .int .i64 x17_1 ∧ Aside0 (spec_IsPlain.l0 kq l2 (l2.length : Int) x17_1 = some (r1, r2)) ∧ Aside0 (kq ≤ k) ∧ Aside0 (Below w.heap.size w w'))
  case atStart => exact ⟨(0), qS, H', ⟨Nat.le_refl _⟩, ⟨qB⟩⟩
  case round =>
   clear H'
   try clear c2
   try clear p2
   try clear c3
   try clear c5
   try clear c6
   obtain ⟨x17_1, rfl, HA, HK1, HB⟩ := hrel
   cases gk with
   | zero => exact absurd HA.out (by simp [spec_IsPlain.l0])
   | succ k1 =>
    have H := HA.out
    clear HA
    simp only [spec_IsPlain.l0] at H
    by_cases c7 : x17_1 < (l2.length : Int)
    ·rw [if_pos c7] at H
     have c7b0 : decide (x17_1 < (l2.length : Int)) = true := decide_eq_true c7
     clear c7
     by_cases c8 : 0 ≤ x17_1
     ·rw [if_pos c8] at H
      have c8b0 : decide (0 ≤ x17_1) = true := decide_eq_true c8
      clear c8
      by_cases c9 : x17_1 < (l2.length : Int)
      ·rw [if_pos c9] at H
       have c9b0 : decide (x17_1 < (l2.length : Int)) = true := decide_eq_true c9
       clear c9
       by_cases c10 : ((rd_T63 l2 x17_1).f0) = 6
       ·rw [if_pos c10] at H
        have c10b0 : (((rd_T63 l2 x17_1).f0) == 6) = true := beq_iff_eq.mpr c10
        have c10b1 : (((rd_T63 l2 x17_1).f0) != 6) = false := bne_eq_false_iff_eq.mpr c10
        clear c10
        simp only [Option.some.injEq, Prod.mk.injEq] at H
        obtain ⟨rfl, rfl⟩ := H
        have p127 : 0 ≤ (x17_1 : Int) := qD
        have q127 : x17_1 < (l2.length : Int) := qD
        obtain ⟨ad127, e127, hx127_0, hx127_1⟩ := at_T63 HR2.out x17_1 p127 q127
        cases e127
        replace hx127_0 := (HB.out.cell (World.block_lt_of_cell? w _ hx127_0)).trans hx127_0
        replace hx127_1 := (HB.out.cell (World.block_lt_of_cell? w _ hx127_1)).trans hx127_1
        replace p127 := eq_true p127
        replace q127 := eq_true q127
        go_wp2_with (first | ((with_reducible refine gate_dst (N := 9) rfl ?_); refine box_event ?hg (N := 9) ?hd (cs := #[.int .i64 0, .int .u64 0]) (t := 63) ?hr ?_; (case hd => rfl); (case hg => rfl); (case hr => first | (go_simp; done) | (go_simp; rfl)); intro gb128 hg w11 hbox hb; have n0_ := Aside0.mk (below_step (qB) hb); have n1_ := Aside0.mk (hbox); have n2_ := Aside0.mk ((by rw [hg]; exact (below_size (qB)) : w.heap.size ≤ gb128)); have n3_ := Aside0.mk ((by rw [hg]; exact (below_size (qB)) : w.heap.size ≤ gb128)); clear HB; have HB := n0_; have BK128 := n1_; have GW128 := n2_; have GE128 := n3_; clear n0_ n1_ n2_ n3_; clear hb hbox hg; have hcz12_0 : w11.cell? ⟨gb128, 0, none⟩ = some (.int .i64 0) := (blk_cell BK128.out 0).trans rfl; have hcz12_1 : w11.cell? ⟨gb128, 1, none⟩ = some (.int .u64 0) := (blk_cell BK128.out 1).trans rfl; have hfz12_0 := blk_frozen BK128.out 0; have hfz12_1 := blk_frozen BK128.out 1))
        go_ret2
        exact ⟨qE, qB⟩
       ·rw [if_neg c10] at H
        have c10b0 : (((rd_T63 l2 x17_1).f0) == 6) = false := beq_eq_false_iff_ne.mpr c10
        have c10b1 : (((rd_T63 l2 x17_1).f0) != 6) = true := bne_iff_ne.mpr c10
        by_cases c13 : ((rd_T63 l2 x17_1).f0) = 7
        ·rw [if_pos c13] at H
         have c13b0 : (((rd_T63 l2 x17_1).f0) == 7) = true := beq_iff_eq.mpr c13
         have c13b1 : (((rd_T63 l2 x17_1).f0) != 7) = false := bne_eq_false_iff_eq.mpr c13
         clear c13
         simp only [Option.some.injEq, Prod.mk.injEq] at H
         obtain ⟨rfl, rfl⟩ := H
         have p127 : 0 ≤ (x17_1 : Int) := qD
         have q127 : x17_1 < (l2.length : Int) := qD
         obtain ⟨ad127, e127, hx127_0, hx127_1⟩ := at_T63 HR2.out x17_1 p127 q127
         cases e127
         replace hx127_0 := (HB.out.cell (World.block_lt_of_cell? w _ hx127_0)).trans hx127_0
         replace hx127_1 := (HB.out.cell (World.block_lt_of_cell? w _ hx127_1)).trans hx127_1
         replace p127 := eq_true p127
         replace q127 := eq_true q127
         go_wp2_with (first | ((with_reducible refine gate_dst (N := 9) rfl ?_); refine box_event ?hg (N := 9) ?hd (cs := #[.int .i64 0, .int .u64 0]) (t := 63) ?hr ?_; (case hd => rfl); (case hg => rfl); (case hr => first | (go_simp; done) | (go_simp; rfl)); intro gb128 hg w14 hbox hb; have n0_ := Aside0.mk (below_step (qB) hb); have n1_ := Aside0.mk (hbox); have n2_ := Aside0.mk ((by rw [hg]; exact (below_size (qB)) : w.heap.size ≤ gb128)); have n3_ := Aside0.mk ((by rw [hg]; exact (below_size (qB)) : w.heap.size ≤ gb128)); clear HB; have HB := n0_; have BK128 := n1_; have GW128 := n2_; have GE128 := n3_; clear n0_ n1_ n2_ n3_; clear hb hbox hg; have hcz15_0 : w14.cell? ⟨gb128, 0, none⟩ = some (.int .i64 0) := (blk_cell BK128.out 0).trans rfl; have hcz15_1 : w14.cell? ⟨gb128, 1, none⟩ = some (.int .u64 0) := (blk_cell BK128.out 1).trans rfl; have hfz15_0 := blk_frozen BK128.out 0; have hfz15_1 := blk_frozen BK128.out 1))
         go_ret2
         exact ⟨qE, qB⟩
        ·rw [if_neg c13] at H
         have c13b0 : (((rd_T63 l2 x17_1).f0) == 7) = false := beq_eq_false_iff_ne.mpr c13
         have c13b1 : (((rd_T63 l2 x17_1).f0) != 7) = true := bne_iff_ne.mpr c13
         by_cases c16 : ((rd_T63 l2 x17_1).f0) = 11
         ·rw [if_pos c16] at H
          have c16b0 : (((rd_T63 l2 x17_1).f0) == 11) = true := beq_iff_eq.mpr c16
          have c16b1 : (((rd_T63 l2 x17_1).f0) != 11) = false := bne_eq_false_iff_eq.mpr c16
          clear c16
          simp only [Option.some.injEq, Prod.mk.injEq] at H
          obtain ⟨rfl, rfl⟩ := H
          have p127 : 0 ≤ (x17_1 : Int) := qD
          have q127 : x17_1 < (l2.length : Int) := qD
          obtain ⟨ad127, e127, hx127_0, hx127_1⟩ := at_T63 HR2.out x17_1 p127 q127
          cases e127
          replace hx127_0 := (HB.out.cell (World.block_lt_of_cell? w _ hx127_0)).trans hx127_0
          replace hx127_1 := (HB.out.cell (World.block_lt_of_cell? w _ hx127_1)).trans hx127_1
          replace p127 := eq_true p127
          replace q127 := eq_true q127
          go_wp2_with (first | ((with_reducible refine gate_dst (N := 9) rfl ?_); refine box_event ?hg (N := 9) ?hd (cs := #[.int .i64 0, .int .u64 0]) (t := 63) ?hr ?_; (case hd => rfl); (case hg => rfl); (case hr => first | (go_simp; done) | (go_simp; rfl)); intro gb128 hg w17 hbox hb; have n0_ := Aside0.mk (below_step (qB) hb); have n1_ := Aside0.mk (hbox); have n2_ := Aside0.mk ((by rw [hg]; exact (below_size (qB)) : w.heap.size ≤ gb128)); have n3_ := Aside0.mk ((by rw [hg]; exact (below_size (qB)) : w.heap.size ≤ gb128)); clear HB; have HB := n0_; have BK128 := n1_; have GW128 := n2_; have GE128 := n3_; clear n0_ n1_ n2_ n3_; clear hb hbox hg; have hcz18_0 : w17.cell? ⟨gb128, 0, none⟩ = some (.int .i64 0) := (blk_cell BK128.out 0).trans rfl; have hcz18_1 : w17.cell? ⟨gb128, 1, none⟩ = some (.int .u64 0) := (blk_cell BK128.out 1).trans rfl; have hfz18_0 := blk_frozen BK128.out 0; have hfz18_1 := blk_frozen BK128.out 1))
          go_ret2
          exact ⟨qE, qB⟩
         ·rw [if_neg c16] at H
          have c16b0 : (((rd_T63 l2 x17_1).f0) == 11) = false := beq_eq_false_iff_ne.mpr c16
          have c16b1 : (((rd_T63 l2 x17_1).f0) != 11) = true := bne_iff_ne.mpr c16
          by_cases c19 : ((rd_T63 l2 x17_1).f0) = 12
          ·rw [if_pos c19] at H
           have c19b0 : (((rd_T63 l2 x17_1).f0) == 12) = true := beq_iff_eq.mpr c19
           have c19b1 : (((rd_T63 l2 x17_1).f0) != 12) = false := bne_eq_false_iff_eq.mpr c19
           clear c19
           simp only [Option.some.injEq, Prod.mk.injEq] at H
           obtain ⟨rfl, rfl⟩ := H
           have p127 : 0 ≤ (x17_1 : Int) := qD
           have q127 : x17_1 < (l2.length : Int) := qD
           obtain ⟨ad127, e127, hx127_0, hx127_1⟩ := at_T63 HR2.out x17_1 p127 q127
           cases e127
           replace hx127_0 := (HB.out.cell (World.block_lt_of_cell? w _ hx127_0)).trans hx127_0
           replace hx127_1 := (HB.out.cell (World.block_lt_of_cell? w _ hx127_1)).trans hx127_1
           replace p127 := eq_true p127
           replace q127 := eq_true q127
           go_wp2_with (first | ((with_reducible refine gate_dst (N := 9) rfl ?_); refine box_event ?hg (N := 9) ?hd (cs := #[.int .i64 0, .int .u64 0]) (t := 63) ?hr ?_; (case hd => rfl); (case hg => rfl); (case hr => first | (go_simp; done) | (go_simp; rfl)); intro gb128 hg w20 hbox hb; have n0_ := Aside0.mk (below_step (qB) hb); have n1_ := Aside0.mk (hbox); have n2_ := Aside0.mk ((by rw [hg]; exact (below_size (qB)) : w.heap.size ≤ gb128)); have n3_ := Aside0.mk ((by rw [hg]; exact (below_size (qB)) : w.heap.size ≤ gb128)); clear HB; have HB := n0_; have BK128 := n1_; have GW128 := n2_; have GE128 := n3_; clear n0_ n1_ n2_ n3_; clear hb hbox hg; have hcz21_0 : w20.cell? ⟨gb128, 0, none⟩ = some (.int .i64 0) := (blk_cell BK128.out 0).trans rfl; have hcz21_1 : w20.cell? ⟨gb128, 1, none⟩ = some (.int .u64 0) := (blk_cell BK128.out 1).trans rfl; have hfz21_0 := blk_frozen BK128.out 0; have hfz21_1 := blk_frozen BK128.out 1))
           go_ret2
           exact ⟨qE, qB⟩
          ·rw [if_neg c19] at H
           have c19b0 : (((rd_T63 l2 x17_1).f0) == 12) = false := beq_eq_false_iff_ne.mpr c19
           have c19b1 : (((rd_T63 l2 x17_1).f0) != 12) = true := bne_iff_ne.mpr c19
           have H' := Aside0.mk H
           clear H
           have p127 : 0 ≤ (x17_1 : Int) := qD
           have q127 : x17_1 < (l2.length : Int) := qD
           obtain ⟨ad127, e127, hx127_0, hx127_1⟩ := at_T63 HR2.out x17_1 p127 q127
           cases e127
           replace hx127_0 := (HB.out.cell (World.block_lt_of_cell? w _ hx127_0)).trans hx127_0
           replace hx127_1 := (HB.out.cell (World.block_lt_of_cell? w _ hx127_1)).trans hx127_1
           replace p127 := eq_true p127
           replace q127 := eq_true q127
           go_wp2_with (first | ((with_reducible refine gate_dst (N := 9) rfl ?_); refine box_event ?hg (N := 9) ?hd (cs := #[.int .i64 0, .int .u64 0]) (t := 63) ?hr ?_; (case hd => rfl); (case hg => rfl); (case hr => first | (go_simp; done) | (go_simp; rfl)); intro gb128 hg w22 hbox hb; have n0_ := Aside0.mk (below_step (qB) hb); have n1_ := Aside0.mk (hbox); have n2_ := Aside0.mk ((by rw [hg]; exact (below_size (qB)) : w.heap.size ≤ gb128)); have n3_ := Aside0.mk ((by rw [hg]; exact (below_size (qB)) : w.heap.size ≤ gb128)); clear HB; have HB := n0_; have BK128 := n1_; have GW128 := n2_; have GE128 := n3_; clear n0_ n1_ n2_ n3_; clear hb hbox hg; have hcz23_0 : w22.cell? ⟨gb128, 0, none⟩ = some (.int .i64 0) := (blk_cell BK128.out 0).trans rfl; have hcz23_1 : w22.cell? ⟨gb128, 1, none⟩ = some (.int .u64 0) := (blk_cell BK128.out 1).trans rfl; have hfz23_0 := blk_frozen BK128.out 0; have hfz23_1 := blk_frozen BK128.out 1))
           go_roundg k1
           case measure => have := HK1.out; omega
           case rel => exact ⟨(wrap64 (x17_1 + 1)), qS, H', ⟨by have := HK1.out; omega⟩, ⟨qB⟩⟩
      ·rw [if_neg c9] at H
       exact absurd H (by simp)
     ·rw [if_neg c8] at H
      exact absurd H (by simp)
    ·rw [if_neg c7] at H
     have c7b0 : decide (x17_1 < (l2.length : Int)) = false := decide_eq_false c7
     clear c7
     simp only [Option.some.injEq, Prod.mk.injEq] at H
     obtain ⟨rfl, rfl⟩ := H
     go_wp2
     go_ret2
     exact ⟨qE, qB⟩
 ·replace c5 := Bool.eq_false_iff.mpr c5
  subst c5
  have H1 : (some (false, false)) = some (r1, r2) := by rw [if_neg (show ¬ (false = true) by decide)] at H; exact H
  clear H
  have H := H1
  clear H1
  simp only [Option.some.injEq, Prod.mk.injEq] at H
  obtain ⟨rfl, rfl⟩ := H
  go_enter Try.func33, Try.ntmps33
  go_wp2_with (first | ((with_reducible refine gate_callee (f := 60) rfl ?_); refine goesL_ (some 13) rfl rfl Try.func60 (by kernel_rfl) rfl #[.int .i64 a0, .int .i64 a1, .slice A2 l2.length c2] rfl qG ?_; (with_reducible refine (spec_GoodTerm.calls k a0 a1 _ _ l2 false _ ?side1 ?side2 A4.out).mono ?_); (case side1 => exact qC HR2.out); (case side2 => exact HC2.out); rintro e w24 ⟨rfl, hb⟩; refine ⟨_, rfl, ?_⟩; have n0_ := Aside0.mk (below_step (qB) hb); clear HB; have HB := n0_; clear n0_; (try clear hb); (try clear hb2); (try clear hk); (try clear hi)))
  go_ret2
  exact ⟨qE, qB⟩

/-! ### spec_l5Wide: function 34 -/
def spec_l5Wide.f (a0 : Int) : Option (Bool) := (spec_l1In.f a0 1 4).bind fun t129 => (some t129)
set_option maxHeartbeats 8000000 in
set_option maxRecDepth 100000 in
theorem spec_l5Wide.calls (a0 : Int) (r : Bool) (w : World) (h : spec_l5Wide.f a0 = some r) :
  Calls Try.prog 34 #[.int .i64 a0] w fun e w' => e = .returned (.bool r) ∧ Drawn0 w w' := by
 have H : ((spec_l1In.f a0 1 4).bind fun t129 => (some t129)) = some r := h
 clear h
 replace H := Option.bind_eq_some_iff.mp H
 obtain ⟨t129, A20, H⟩ := H
 replace H : (some t129) = some r := H
 have A2 := Aside0.mk A20
 clear A20
 obtain rfl := Option.some.inj H
 go_enter Try.func34, Try.ntmps34
 go_wp2_with (first | ((with_reducible refine gate_callee (f := 56) rfl ?_); refine goesL_ (some 4) rfl rfl Try.func56 (by kernel_rfl) rfl #[.int .i64 a0, .int .i64 1, .int .i64 4] rfl qG ?_; (with_reducible refine (spec_l1In.calls a0 1 4 t129 _ A2.out).mono ?_); rintro e w' ⟨rfl, ⟨nd, rfl⟩⟩; refine ⟨_, rfl, ?_⟩))
 go_ret
 exact ⟨by first | rfl | (simp; done) | (simp [*]; done), by repeat (first | exact Drawn0.refl _ | apply Drawn0.step)⟩

/-! ### spec_l4Wires: function 67 -/
def spec_l4Wires.f (a0_0 : Int) (l0_1 : List (S93)) (l0_2 : List Int) : Option (Int) := some (wrap64 (a0_0 + (l0_1.length : Int)))
set_option maxHeartbeats 8000000 in
set_option maxRecDepth 100000 in
theorem spec_l4Wires.calls (a0_0 : Int) (A0_1 : Option Addr) (c0_1 : Nat) (l0_1 : List (S93)) (A0_2 : Option Addr) (c0_2 : Nat) (l0_2 : List Int) (r : Int) (w : World) (hr0_1 : Kd.C k93 w A0_1 l0_1.length l0_1) (hc0_1 : l0_1.length ≤ c0_1) (hr0_2 : Kd.C (Kd.int .i64) w A0_2 l0_2.length l0_2) (hc0_2 : l0_2.length ≤ c0_2) (h : spec_l4Wires.f a0_0 l0_1 l0_2 = some r) :
  Calls Try.prog 67 #[.agg #[.int .i64 a0_0, .slice A0_1 l0_1.length c0_1, .slice A0_2 l0_2.length c0_2]] w fun e w' => e = .returned (.int .i64 r) ∧ Below w.heap.size w w' := by
 have hu27 := Try.underlying27
 have HR0_1 := Aside0.mk hr0_1
 have HC0_1 := Aside0.mk hc0_1
 clear hr0_1 hc0_1
 have HR0_2 := Aside0.mk hr0_2
 have HC0_2 := Aside0.mk hc0_2
 clear hr0_2 hc0_2
 have HB := Aside0.mk (Below.refl w.heap.size w)
 have H : (some (wrap64 (a0_0 + (l0_1.length : Int)))) = some r := h
 clear h
 obtain rfl := Option.some.inj H
 go_enter Try.func67, Try.ntmps67
 go_wp2_with (first | ((with_reducible refine gate_dst (N := 1) rfl ?_); refine box_event ?hg (N := 1) ?hd (cs := #[.int .i64 a0_0, .slice A0_1 l0_1.length c0_1, .slice A0_2 l0_2.length c0_2]) (t := 27) ?hr ?_; (case hd => rfl); (case hg => rfl); (case hr => first | (go_simp; done) | (go_simp; rfl)); intro gb130 hg w2 hbox hb; have n0_ := Aside0.mk (below_step (qB) hb); have n1_ := Aside0.mk (hbox); have n2_ := Aside0.mk ((by rw [hg]; exact (below_size (qB)) : w.heap.size ≤ gb130)); have n3_ := Aside0.mk ((by rw [hg]; exact (below_size (qB)) : w.heap.size ≤ gb130)); clear HB; have HB := n0_; have BK130 := n1_; have GW130 := n2_; have GE130 := n3_; clear n0_ n1_ n2_ n3_; clear hb hbox hg; have hcz3_0 : w2.cell? ⟨gb130, 0, none⟩ = some (.int .i64 a0_0) := (blk_cell BK130.out 0).trans rfl; have hcz3_1 : w2.cell? ⟨gb130, 1, none⟩ = some (.slice A0_1 l0_1.length c0_1) := (blk_cell BK130.out 1).trans rfl; have hcz3_2 : w2.cell? ⟨gb130, 2, none⟩ = some (.slice A0_2 l0_2.length c0_2) := (blk_cell BK130.out 2).trans rfl; have hfz3_0 := blk_frozen BK130.out 0; have hfz3_1 := blk_frozen BK130.out 1; have hfz3_2 := blk_frozen BK130.out 2))
 go_ret
 exact ⟨qE, qB⟩

end Go.Proofs.Ytckgeanmljmhfaa.X
