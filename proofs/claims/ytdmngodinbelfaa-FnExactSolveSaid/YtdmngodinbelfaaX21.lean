/- Each Go function as a Lean function, with the proof that the call comes to just its answer; or a law's row out of its pure statement. Conditions: the arguments are of their kinds. Written by this session's program wip/xp/xp.sh. -/
import Derived.Test.YtdmngodinbelfaaX0
import Derived.Test.YtdmngodinbelfaaX7
import Derived.StillTailTactics
import Derived.Deep.QuietTactic
import Derived.BigQuiet
namespace Go.Proofs.Ytdmngodinbelfaa.X
open Go.RowKit Go.Proofs.YtdmngodinbelfaaW.PrintWords Go.Proofs.YtdmngodinbelfaaW.PrintLast Go.Proofs.YtdmngodinbelfaaW.PrintMore
attribute [local go_sem] max2_int min2_int max_two min_two max_three min_three max_four min_four   -- for this text's walks alone
set_option linter.unusedVariables false
set_option linter.unusedSimpArgs false

/-! ### slices_Index_int: function 63 -/
def slices_Index_int.l0 : Nat → List Int → Int → Int → Int → Option (Int)
  | 0, _, _, _, _ => none
  | k + 1, x0, x1, x7, x8 => if x8 < x7 then (if 0 ≤ x8 then (if x8 < (x0.length : Int) then (if x1 = (rd x0 x8) then (some x8) else (slices_Index_int.l0 k x0 x1 x7 (wrap64 (x8 + 1)))) else (none)) else (none)) else (some (-1))
def slices_Index_int.f (k : Nat) (l0 : List Int) (a1 : Int) : Option (Int) := slices_Index_int.l0 k l0 a1 (l0.length : Int) 0
theorem slices_Index_int.mono_l : ∀ k, (∀ y0 y1 y2 y3, LeO (slices_Index_int.l0 k y0 y1 y2 y3) (slices_Index_int.l0 (k + 1) y0 y1 y2 y3))
  | 0 => fun _ _ _ _ r h => by simp [slices_Index_int.l0] at h
  | k + 1 => by
    have ih0 := slices_Index_int.mono_l k
    · intro y0 y1 y2 y3
      unfold slices_Index_int.l0
      repeat' first
      | (with_reducible exact ih0 _ _ _ _)
      | (with_reducible exact LeO.refl _)
      | (with_reducible exact LeO.none _)
      | (with_reducible refine LeO.ite ?_ ?_)
      | (with_reducible refine LeO.bind ?_ (fun _ => ?_))
      | exact ih0 _ _ _ _
      | exact LeO.none _
      | refine LeO.ite ?_ ?_
      | refine LeO.bind ?_ (fun _ => ?_)
theorem slices_Index_int.mono : ∀ a0 a1 k, LeO (slices_Index_int.f k a0 a1) (slices_Index_int.f (k + 1) a0 a1) := by
  intro a0 a1 k
  have ih0 := slices_Index_int.mono_l k
  unfold slices_Index_int.f
  repeat' first
      | (with_reducible exact ih0 _ _ _ _)
      | (with_reducible exact LeO.refl _)
      | (with_reducible exact LeO.none _)
      | (with_reducible refine LeO.ite ?_ ?_)
      | (with_reducible refine LeO.bind ?_ (fun _ => ?_))
      | exact ih0 _ _ _ _
      | exact LeO.none _
      | refine LeO.ite ?_ ?_
      | refine LeO.bind ?_ (fun _ => ?_)
set_option maxHeartbeats 8000000 in
set_option maxRecDepth 100000 in
theorem slices_Index_int.calls (k : Nat) (A0 : Option Addr) (c0 : Nat) (l0 : List Int) (a1 : Int) (r : Int) (w : World) (hr0 : Kd.C (Kd.int .i64) w A0 l0.length l0) (hc0 : l0.length ≤ c0) (h : slices_Index_int.f k l0 a1 = some r) :
    Calls Try.prog 63 #[.slice A0 l0.length c0, .int .i64 a1] w fun e w' => e = .returned (.int .i64 r) ∧ Drawn0 w w' := by
  have HR0 := Aside0.mk hr0
  have HC0 := Aside0.mk hc0
  clear hr0 hc0
  have H : (slices_Index_int.l0 k l0 a1 (l0.length : Int) 0) = some r := h
  clear h
  have H' := Aside0.mk H
  clear H
  go_enter Try.func63, Try.ntmps63
  go_wp2
  go_loopg [8] k (fun kq v8 w' => ∃ (x8_1 : Int), v8 = .int .i64 x8_1 ∧ Aside0 (slices_Index_int.l0 kq l0 a1 (l0.length : Int) x8_1 = some r) ∧ Aside0 (kq ≤ k) ∧ Drawn0 w w')
  case atStart => exact ⟨(0), qS, H', ⟨Nat.le_refl _⟩, by repeat (first | exact Drawn0.refl _ | apply Drawn0.step)⟩
  case round =>
    clear H'
    try clear p2
    obtain ⟨x8_1, rfl, HA, HK1, ⟨m1, rfl⟩⟩ := hrel
    cases gk with
    | zero => exact absurd HA.out (by simp [slices_Index_int.l0])
    | succ k1 =>
      have H := HA.out
      clear HA
      simp only [slices_Index_int.l0] at H
      by_cases c3 : x8_1 < (l0.length : Int)
      · rw [if_pos c3] at H
        have c3b0 : decide (x8_1 < (l0.length : Int)) = true := decide_eq_true c3
        clear c3
        by_cases c4 : 0 ≤ x8_1
        · rw [if_pos c4] at H
          have c4b0 : decide (0 ≤ x8_1) = true := decide_eq_true c4
          clear c4
          by_cases c5 : x8_1 < (l0.length : Int)
          · rw [if_pos c5] at H
            have c5b0 : decide (x8_1 < (l0.length : Int)) = true := decide_eq_true c5
            clear c5
            by_cases c6 : a1 = (rd l0 x8_1)
            · rw [if_pos c6] at H
              have c6b0 : (a1 == (rd l0 x8_1)) = true := beq_iff_eq.mpr c6
              have c6b1 : (a1 != (rd l0 x8_1)) = false := bne_eq_false_iff_eq.mpr c6
              clear c6
              obtain rfl := Option.some.inj H
              have p270 : 0 ≤ (x8_1 : Int) := qD
              have q270 : x8_1 < (l0.length : Int) := qD
              obtain ⟨ad270, e270, hx270_0⟩ := Kd.at_int HR0.out x8_1 p270 q270
              cases e270
              replace p270 := eq_true p270
              replace q270 := eq_true q270
              go_wp2
              go_ret
              exact ⟨by first | rfl | (simp; done) | (simp [*]; done), by repeat (first | exact Drawn0.refl _ | apply Drawn0.step)⟩
            · rw [if_neg c6] at H
              have c6b0 : (a1 == (rd l0 x8_1)) = false := beq_eq_false_iff_ne.mpr c6
              have c6b1 : (a1 != (rd l0 x8_1)) = true := bne_iff_ne.mpr c6
              have H' := Aside0.mk H
              clear H
              have p270 : 0 ≤ (x8_1 : Int) := qD
              have q270 : x8_1 < (l0.length : Int) := qD
              obtain ⟨ad270, e270, hx270_0⟩ := Kd.at_int HR0.out x8_1 p270 q270
              cases e270
              replace p270 := eq_true p270
              replace q270 := eq_true q270
              go_wp2
              go_roundg k1
              case measure => have := HK1.out; omega
              case rel => exact ⟨(wrap64 (x8_1 + 1)), qS, H', ⟨by have := HK1.out; omega⟩, by repeat (first | exact Drawn0.refl _ | apply Drawn0.step)⟩
          · rw [if_neg c5] at H
            exact absurd H (by simp)
        · rw [if_neg c4] at H
          exact absurd H (by simp)
      · rw [if_neg c3] at H
        have c3b0 : decide (x8_1 < (l0.length : Int)) = false := decide_eq_false c3
        clear c3
        obtain rfl := Option.some.inj H
        go_wp2
        go_ret
        exact ⟨by first | rfl | (simp; done) | (simp [*]; done), by repeat (first | exact Drawn0.refl _ | apply Drawn0.step)⟩

/-! ### slices_Contains_int: function 46 -/
def slices_Contains_int.f (k : Nat) (l0 : List Int) (a1 : Int) : Option (Bool) := (slices_Index_int.f k l0 a1).bind fun t271 => (some (decide (t271 ≥ 0)))
theorem slices_Contains_int.mono : ∀ a0 a1 k, LeO (slices_Contains_int.f k a0 a1) (slices_Contains_int.f (k + 1) a0 a1) := by
  intro a0 a1 k
  unfold slices_Contains_int.f
  repeat' first
      | (with_reducible exact slices_Index_int.mono _ _ _)
      | (with_reducible exact LeO.refl _)
      | (with_reducible exact LeO.none _)
      | (with_reducible refine LeO.ite ?_ ?_)
      | (with_reducible refine LeO.bind ?_ (fun _ => ?_))
      | exact slices_Index_int.mono _ _ _
      | exact LeO.none _
      | refine LeO.ite ?_ ?_
      | refine LeO.bind ?_ (fun _ => ?_)
set_option maxHeartbeats 8000000 in
set_option maxRecDepth 100000 in
theorem slices_Contains_int.calls (k : Nat) (A0 : Option Addr) (c0 : Nat) (l0 : List Int) (a1 : Int) (r : Bool) (w : World) (hr0 : Kd.C (Kd.int .i64) w A0 l0.length l0) (hc0 : l0.length ≤ c0) (h : slices_Contains_int.f k l0 a1 = some r) :
    Calls Try.prog 46 #[.slice A0 l0.length c0, .int .i64 a1] w fun e w' => e = .returned (.bool r) ∧ Drawn0 w w' := by
  have HR0 := Aside0.mk hr0
  have HC0 := Aside0.mk hc0
  clear hr0 hc0
  have H : ((slices_Index_int.f k l0 a1).bind fun t271 => (some (decide (t271 ≥ 0)))) = some r := h
  clear h
  replace H := Option.bind_eq_some_iff.mp H
  obtain ⟨t271, A30, H⟩ := H
  replace H : (some (decide (t271 ≥ 0))) = some r := H
  have A3 := Aside0.mk A30
  clear A30
  obtain rfl := Option.some.inj H
  go_enter Try.func46, Try.ntmps46
  go_wp2_with (first | ((with_reducible refine gate_callee (f := 63) rfl ?_); refine goesL_ (some 7) rfl rfl Try.func63 (by kernel_rfl) rfl #[.slice A0 l0.length c0, .int .i64 a1] rfl qG ?_; (with_reducible refine (slices_Index_int.calls k _ _ l0 a1 t271 _ ?side1 ?side2 A3.out).mono ?_); (case side1 => exact qC HR0.out); (case side2 => exact HC0.out); rintro e w' ⟨rfl, ⟨nd, rfl⟩⟩; refine ⟨_, rfl, ?_⟩))
  go_ret
  exact ⟨by first | rfl | (simp; done) | (simp [*]; done), by repeat (first | exact Drawn0.refl _ | apply Drawn0.step)⟩

/-! ### cmp_isNaN_cmp_isNaN_int: function 74 -/
def cmp_isNaN_cmp_isNaN_int.f (a0 : Int) : Option (Bool) := some (a0 != a0)
set_option maxHeartbeats 8000000 in
set_option maxRecDepth 100000 in
theorem cmp_isNaN_cmp_isNaN_int.calls (a0 : Int) (r : Bool) (w : World) (h : cmp_isNaN_cmp_isNaN_int.f a0 = some r) :
    Calls Try.prog 74 #[.int .i64 a0] w fun e w' => e = .returned (.bool r) ∧ Drawn0 w w' := by
  have H : (some (a0 != a0)) = some r := h
  clear h
  obtain rfl := Option.some.inj H
  go_enter Try.func74, Try.ntmps74
  go_wp2
  go_ret
  exact ⟨by first | rfl | (simp; done) | (simp [*]; done), by repeat (first | exact Drawn0.refl _ | apply Drawn0.step)⟩

/-! ### cmp_Compare_cmp_Compare_int: function 65 -/
def cmp_Compare_cmp_Compare_int.f (a0 : Int) (a1 : Int) : Option (Int) := (cmp_isNaN_cmp_isNaN_int.f a0).bind fun t272 => ((cmp_isNaN_cmp_isNaN_int.f a1).bind fun t273 => (if t272 = true then (if t273 = true then (some 0) else (some (-1))) else (if t273 = true then (some 1) else (if a0 < a1 then (some (-1)) else (if a0 > a1 then (some 1) else (some 0))))))
set_option maxHeartbeats 8000000 in
set_option maxRecDepth 100000 in
theorem cmp_Compare_cmp_Compare_int.calls (a0 : Int) (a1 : Int) (r : Int) (w : World) (h : cmp_Compare_cmp_Compare_int.f a0 a1 = some r) :
    Calls Try.prog 65 #[.int .i64 a0, .int .i64 a1] w fun e w' => e = .returned (.int .i64 r) ∧ Drawn0 w w' := by
  have H : ((cmp_isNaN_cmp_isNaN_int.f a0).bind fun t272 => ((cmp_isNaN_cmp_isNaN_int.f a1).bind fun t273 => (if t272 = true then (if t273 = true then (some 0) else (some (-1))) else (if t273 = true then (some 1) else (if a0 < a1 then (some (-1)) else (if a0 > a1 then (some 1) else (some 0))))))) = some r := h
  clear h
  replace H := Option.bind_eq_some_iff.mp H
  obtain ⟨t272, A30, H⟩ := H
  replace H : ((cmp_isNaN_cmp_isNaN_int.f a1).bind fun t273 => (if t272 = true then (if t273 = true then (some 0) else (some (-1))) else (if t273 = true then (some 1) else (if a0 < a1 then (some (-1)) else (if a0 > a1 then (some 1) else (some 0)))))) = some r := H
  have A3 := Aside0.mk A30
  clear A30
  replace H := Option.bind_eq_some_iff.mp H
  obtain ⟨t273, A40, H⟩ := H
  replace H : (if t272 = true then (if t273 = true then (some 0) else (some (-1))) else (if t273 = true then (some 1) else (if a0 < a1 then (some (-1)) else (if a0 > a1 then (some 1) else (some 0))))) = some r := H
  have A4 := Aside0.mk A40
  clear A40
  by_cases c5 : t272 = true
  · subst c5
    have H1 : (if t273 = true then (some 0) else (some (-1))) = some r := by rw [if_pos rfl] at H; exact H
    clear H
    have H := H1
    clear H1
    by_cases c6 : t273 = true
    · subst c6
      have H1 : (some 0) = some r := by rw [if_pos rfl] at H; exact H
      clear H
      have H := H1
      clear H1
      obtain rfl := Option.some.inj H
      go_enter Try.func65, Try.ntmps65
      go_wp2_with (first | ((with_reducible refine gate_callee (f := 74) rfl ?_); refine goesL_ (some 8) rfl rfl Try.func74 (by kernel_rfl) rfl #[.int .i64 a0] rfl qG ?_; (with_reducible refine (cmp_isNaN_cmp_isNaN_int.calls a0 true _ A3.out).mono ?_); rintro e w' ⟨rfl, ⟨nd, rfl⟩⟩; refine ⟨_, rfl, ?_⟩) | ((with_reducible refine gate_callee (f := 74) rfl ?_); refine goesL_ (some 10) rfl rfl Try.func74 (by kernel_rfl) rfl #[.int .i64 a1] rfl qG ?_; (with_reducible refine (cmp_isNaN_cmp_isNaN_int.calls a1 true _ A4.out).mono ?_); rintro e w' ⟨rfl, ⟨nd, rfl⟩⟩; refine ⟨_, rfl, ?_⟩))
      go_ret
      exact ⟨by first | rfl | (simp; done) | (simp [*]; done), by repeat (first | exact Drawn0.refl _ | apply Drawn0.step)⟩
    · replace c6 := Bool.eq_false_iff.mpr c6
      subst c6
      have H1 : (some (-1)) = some r := by rw [if_neg (show ¬ (false = true) by decide)] at H; exact H
      clear H
      have H := H1
      clear H1
      obtain rfl := Option.some.inj H
      go_enter Try.func65, Try.ntmps65
      go_wp2_with (first | ((with_reducible refine gate_callee (f := 74) rfl ?_); refine goesL_ (some 8) rfl rfl Try.func74 (by kernel_rfl) rfl #[.int .i64 a0] rfl qG ?_; (with_reducible refine (cmp_isNaN_cmp_isNaN_int.calls a0 true _ A3.out).mono ?_); rintro e w' ⟨rfl, ⟨nd, rfl⟩⟩; refine ⟨_, rfl, ?_⟩) | ((with_reducible refine gate_callee (f := 74) rfl ?_); refine goesL_ (some 10) rfl rfl Try.func74 (by kernel_rfl) rfl #[.int .i64 a1] rfl qG ?_; (with_reducible refine (cmp_isNaN_cmp_isNaN_int.calls a1 false _ A4.out).mono ?_); rintro e w' ⟨rfl, ⟨nd, rfl⟩⟩; refine ⟨_, rfl, ?_⟩))
      go_ret
      exact ⟨by first | rfl | (simp; done) | (simp [*]; done), by repeat (first | exact Drawn0.refl _ | apply Drawn0.step)⟩
  · replace c5 := Bool.eq_false_iff.mpr c5
    subst c5
    have H1 : (if t273 = true then (some 1) else (if a0 < a1 then (some (-1)) else (if a0 > a1 then (some 1) else (some 0)))) = some r := by rw [if_neg (show ¬ (false = true) by decide)] at H; exact H
    clear H
    have H := H1
    clear H1
    by_cases c7 : t273 = true
    · subst c7
      have H1 : (some 1) = some r := by rw [if_pos rfl] at H; exact H
      clear H
      have H := H1
      clear H1
      obtain rfl := Option.some.inj H
      go_enter Try.func65, Try.ntmps65
      go_wp2_with (first | ((with_reducible refine gate_callee (f := 74) rfl ?_); refine goesL_ (some 8) rfl rfl Try.func74 (by kernel_rfl) rfl #[.int .i64 a0] rfl qG ?_; (with_reducible refine (cmp_isNaN_cmp_isNaN_int.calls a0 false _ A3.out).mono ?_); rintro e w' ⟨rfl, ⟨nd, rfl⟩⟩; refine ⟨_, rfl, ?_⟩) | ((with_reducible refine gate_callee (f := 74) rfl ?_); refine goesL_ (some 10) rfl rfl Try.func74 (by kernel_rfl) rfl #[.int .i64 a1] rfl qG ?_; (with_reducible refine (cmp_isNaN_cmp_isNaN_int.calls a1 true _ A4.out).mono ?_); rintro e w' ⟨rfl, ⟨nd, rfl⟩⟩; refine ⟨_, rfl, ?_⟩))
      go_ret
      exact ⟨by first | rfl | (simp; done) | (simp [*]; done), by repeat (first | exact Drawn0.refl _ | apply Drawn0.step)⟩
    · replace c7 := Bool.eq_false_iff.mpr c7
      subst c7
      have H1 : (if a0 < a1 then (some (-1)) else (if a0 > a1 then (some 1) else (some 0))) = some r := by rw [if_neg (show ¬ (false = true) by decide)] at H; exact H
      clear H
      have H := H1
      clear H1
      by_cases c8 : a0 < a1
      · rw [if_pos c8] at H
        have c8b0 : decide (a0 < a1) = true := decide_eq_true c8
        clear c8
        obtain rfl := Option.some.inj H
        go_enter Try.func65, Try.ntmps65
        go_wp2_with (first | ((with_reducible refine gate_callee (f := 74) rfl ?_); refine goesL_ (some 8) rfl rfl Try.func74 (by kernel_rfl) rfl #[.int .i64 a0] rfl qG ?_; (with_reducible refine (cmp_isNaN_cmp_isNaN_int.calls a0 false _ A3.out).mono ?_); rintro e w' ⟨rfl, ⟨nd, rfl⟩⟩; refine ⟨_, rfl, ?_⟩) | ((with_reducible refine gate_callee (f := 74) rfl ?_); refine goesL_ (some 10) rfl rfl Try.func74 (by kernel_rfl) rfl #[.int .i64 a1] rfl qG ?_; (with_reducible refine (cmp_isNaN_cmp_isNaN_int.calls a1 false _ A4.out).mono ?_); rintro e w' ⟨rfl, ⟨nd, rfl⟩⟩; refine ⟨_, rfl, ?_⟩))
        go_ret
        exact ⟨by first | rfl | (simp; done) | (simp [*]; done), by repeat (first | exact Drawn0.refl _ | apply Drawn0.step)⟩
      · rw [if_neg c8] at H
        have c8b0 : decide (a0 < a1) = false := decide_eq_false c8
        clear c8
        by_cases c9 : a0 > a1
        · rw [if_pos c9] at H
          have c9b0 : decide (a1 < a0) = true := decide_eq_true c9
          clear c9
          obtain rfl := Option.some.inj H
          go_enter Try.func65, Try.ntmps65
          go_wp2_with (first | ((with_reducible refine gate_callee (f := 74) rfl ?_); refine goesL_ (some 8) rfl rfl Try.func74 (by kernel_rfl) rfl #[.int .i64 a0] rfl qG ?_; (with_reducible refine (cmp_isNaN_cmp_isNaN_int.calls a0 false _ A3.out).mono ?_); rintro e w' ⟨rfl, ⟨nd, rfl⟩⟩; refine ⟨_, rfl, ?_⟩) | ((with_reducible refine gate_callee (f := 74) rfl ?_); refine goesL_ (some 10) rfl rfl Try.func74 (by kernel_rfl) rfl #[.int .i64 a1] rfl qG ?_; (with_reducible refine (cmp_isNaN_cmp_isNaN_int.calls a1 false _ A4.out).mono ?_); rintro e w' ⟨rfl, ⟨nd, rfl⟩⟩; refine ⟨_, rfl, ?_⟩))
          go_ret
          exact ⟨by first | rfl | (simp; done) | (simp [*]; done), by repeat (first | exact Drawn0.refl _ | apply Drawn0.step)⟩
        · rw [if_neg c9] at H
          have c9b0 : decide (a1 < a0) = false := decide_eq_false c9
          clear c9
          obtain rfl := Option.some.inj H
          go_enter Try.func65, Try.ntmps65
          go_wp2_with (first | ((with_reducible refine gate_callee (f := 74) rfl ?_); refine goesL_ (some 8) rfl rfl Try.func74 (by kernel_rfl) rfl #[.int .i64 a0] rfl qG ?_; (with_reducible refine (cmp_isNaN_cmp_isNaN_int.calls a0 false _ A3.out).mono ?_); rintro e w' ⟨rfl, ⟨nd, rfl⟩⟩; refine ⟨_, rfl, ?_⟩) | ((with_reducible refine gate_callee (f := 74) rfl ?_); refine goesL_ (some 10) rfl rfl Try.func74 (by kernel_rfl) rfl #[.int .i64 a1] rfl qG ?_; (with_reducible refine (cmp_isNaN_cmp_isNaN_int.calls a1 false _ A4.out).mono ?_); rintro e w' ⟨rfl, ⟨nd, rfl⟩⟩; refine ⟨_, rfl, ?_⟩))
          go_ret
          exact ⟨by first | rfl | (simp; done) | (simp [*]; done), by repeat (first | exact Drawn0.refl _ | apply Drawn0.step)⟩

-- NOT PRINTED: function 64 (impl_Cnf_forced_1)

/-! ### impl_isTrue: function 75 -/
def impl_isTrue.f (l0 : List Int) (a1 : Int) : Option (Bool) := (impl_nameOfLiteral.f a1).bind fun t274 => (if 0 ≤ t274 then (if t274 < (l0.length : Int) then (some (decide ((wrap64 ((rd l0 t274) * a1)) > 0))) else (none)) else (none))
set_option maxHeartbeats 8000000 in
set_option maxRecDepth 100000 in
theorem impl_isTrue.calls (A0 : Option Addr) (c0 : Nat) (l0 : List Int) (a1 : Int) (r : Bool) (w : World) (hr0 : Kd.C (Kd.int .i64) w A0 l0.length l0) (hc0 : l0.length ≤ c0) (h : impl_isTrue.f l0 a1 = some r) :
    Calls Try.prog 75 #[.slice A0 l0.length c0, .int .i64 a1] w fun e w' => e = .returned (.bool r) ∧ Below w.heap.size w w' := by
  have HR0 := Aside0.mk hr0
  have HC0 := Aside0.mk hc0
  clear hr0 hc0
  have HB := Aside0.mk (Below.refl w.heap.size w)
  have H : ((impl_nameOfLiteral.f a1).bind fun t274 => (if 0 ≤ t274 then (if t274 < (l0.length : Int) then (some (decide ((wrap64 ((rd l0 t274) * a1)) > 0))) else (none)) else (none))) = some r := h
  clear h
  replace H := Option.bind_eq_some_iff.mp H
  obtain ⟨t274, A30, H⟩ := H
  replace H : (if 0 ≤ t274 then (if t274 < (l0.length : Int) then (some (decide ((wrap64 ((rd l0 t274) * a1)) > 0))) else (none)) else (none)) = some r := H
  have A3 := Aside0.mk A30
  clear A30
  by_cases c4 : 0 ≤ t274
  · rw [if_pos c4] at H
    have c4b0 : decide (0 ≤ t274) = true := decide_eq_true c4
    clear c4
    by_cases c5 : t274 < (l0.length : Int)
    · rw [if_pos c5] at H
      have c5b0 : decide (t274 < (l0.length : Int)) = true := decide_eq_true c5
      clear c5
      obtain rfl := Option.some.inj H
      go_enter Try.func75, Try.ntmps75
      go_wp2_with (first | ((with_reducible refine gate_callee (f := 62) rfl ?_); refine goesL_ (some 7) rfl rfl Try.func62 (by kernel_rfl) rfl #[.int .i64 a1] rfl qG ?_; (with_reducible refine (impl_nameOfLiteral.calls a1 t274 _ A3.out).mono ?_); rintro e w6 ⟨rfl, hb⟩; refine ⟨_, rfl, ?_⟩; have n0_ := Aside0.mk (below_step (qB) hb); clear HB; have HB := n0_; clear n0_; (try clear hb); (try clear hb2); (try clear hk); (try clear hi); have p275 : 0 ≤ (t274 : Int) := qD; have q275 : t274 < (l0.length : Int) := qD; obtain ⟨ad275, e275, hx275_0⟩ := Kd.at_int HR0.out t274 p275 q275; cases e275; replace hx275_0 := (HB.out.cell (World.block_lt_of_cell? w _ hx275_0)).trans hx275_0; replace p275 := eq_true p275; replace q275 := eq_true q275))
      go_ret
      exact ⟨qE, qB⟩
    · rw [if_neg c5] at H
      exact absurd H (by simp)
  · rw [if_neg c4] at H
    exact absurd H (by simp)

/-! ### impl_isFalse: function 76 -/
def impl_isFalse.f (l0 : List Int) (a1 : Int) : Option (Bool) := (impl_nameOfLiteral.f a1).bind fun t276 => (if 0 ≤ t276 then (if t276 < (l0.length : Int) then (some (decide ((wrap64 ((rd l0 t276) * a1)) < 0))) else (none)) else (none))
set_option maxHeartbeats 8000000 in
set_option maxRecDepth 100000 in
theorem impl_isFalse.calls (A0 : Option Addr) (c0 : Nat) (l0 : List Int) (a1 : Int) (r : Bool) (w : World) (hr0 : Kd.C (Kd.int .i64) w A0 l0.length l0) (hc0 : l0.length ≤ c0) (h : impl_isFalse.f l0 a1 = some r) :
    Calls Try.prog 76 #[.slice A0 l0.length c0, .int .i64 a1] w fun e w' => e = .returned (.bool r) ∧ Below w.heap.size w w' := by
  have HR0 := Aside0.mk hr0
  have HC0 := Aside0.mk hc0
  clear hr0 hc0
  have HB := Aside0.mk (Below.refl w.heap.size w)
  have H : ((impl_nameOfLiteral.f a1).bind fun t276 => (if 0 ≤ t276 then (if t276 < (l0.length : Int) then (some (decide ((wrap64 ((rd l0 t276) * a1)) < 0))) else (none)) else (none))) = some r := h
  clear h
  replace H := Option.bind_eq_some_iff.mp H
  obtain ⟨t276, A30, H⟩ := H
  replace H : (if 0 ≤ t276 then (if t276 < (l0.length : Int) then (some (decide ((wrap64 ((rd l0 t276) * a1)) < 0))) else (none)) else (none)) = some r := H
  have A3 := Aside0.mk A30
  clear A30
  by_cases c4 : 0 ≤ t276
  · rw [if_pos c4] at H
    have c4b0 : decide (0 ≤ t276) = true := decide_eq_true c4
    clear c4
    by_cases c5 : t276 < (l0.length : Int)
    · rw [if_pos c5] at H
      have c5b0 : decide (t276 < (l0.length : Int)) = true := decide_eq_true c5
      clear c5
      obtain rfl := Option.some.inj H
      go_enter Try.func76, Try.ntmps76
      go_wp2_with (first | ((with_reducible refine gate_callee (f := 62) rfl ?_); refine goesL_ (some 7) rfl rfl Try.func62 (by kernel_rfl) rfl #[.int .i64 a1] rfl qG ?_; (with_reducible refine (impl_nameOfLiteral.calls a1 t276 _ A3.out).mono ?_); rintro e w6 ⟨rfl, hb⟩; refine ⟨_, rfl, ?_⟩; have n0_ := Aside0.mk (below_step (qB) hb); clear HB; have HB := n0_; clear n0_; (try clear hb); (try clear hb2); (try clear hk); (try clear hi); have p277 : 0 ≤ (t276 : Int) := qD; have q277 : t276 < (l0.length : Int) := qD; obtain ⟨ad277, e277, hx277_0⟩ := Kd.at_int HR0.out t276 p277 q277; cases e277; replace hx277_0 := (HB.out.cell (World.block_lt_of_cell? w _ hx277_0)).trans hx277_0; replace p277 := eq_true p277; replace q277 := eq_true q277))
      go_ret
      exact ⟨qE, qB⟩
    · rw [if_neg c5] at H
      exact absurd H (by simp)
  · rw [if_neg c4] at H
    exact absurd H (by simp)


-- HAND
/-! ### forced_set.lean -/
-- IMPORT Derived.StillTailTactics
-- IMPORT Derived.Deep.QuietTactic
-- IMPORT Derived.BigQuiet
/-- A literal's name. -/
def foN (x : Int) : Int := mx x (wrap64 (-x))
/-- A literal's sign. -/
def foS (x : Int) : Int := if x < 0 then -1 else if x > 0 then 1 else 0
theorem foName0 (x t : Int) (h : foN x = t) (w : World) : Calls Try.prog 62 #[.int .i64 x] w fun e w' => e = .returned (.int .i64 t) ∧ w' = w := by
  have hj_ : (if x < (wrap64 (-x)) then (wrap64 (-x)) else x) = t := h
  go_enter Try.func62, Try.ntmps62
  go_wp2
  go_ret
  exact ⟨by simp only [← h]; first | rfl | (simp [foN, mx] <;> rfl) | (have : max x (wrap64 (-x)) = mx x (wrap64 (-x)) := (by unfold mx; omega); simp only [foN, this]; done) | (have : max x (wrap64 (-x)) = mx x (wrap64 (-x)) := (by unfold mx; omega); simp [foN, this]), rfl⟩
theorem foName (x t : Int) (h : foN x = t) (w : World) : Calls Try.prog 62 #[.int .i64 x] w fun e w' => e = .returned (.int .i64 t) ∧ Drawn0 w w' := (foName0 x t h w).mono fun _ _ ⟨he, hw⟩ => ⟨he, hw ▸ Drawn0.refl _⟩
theorem foNaN (x : Int) (w : World) : Calls Try.prog 74 #[.int .i64 x] w fun e w' => e = .returned (.bool false) ∧ w' = w := by
  go_enter Try.func74, Try.ntmps74
  go_wp2
  go_ret
  exact ⟨by simp, rfl⟩
theorem foComp0 (x s : Int) (h : foS x = s) (w : World) : Calls Try.prog 65 #[.int .i64 x, .int .i64 0] w fun e w' => e = .returned (.int .i64 s) ∧ w' = w := by
  unfold foS at h
  by_cases h1 : x < 0
  · rw [if_pos h1] at h
    subst h
    have d1 : decide (x < 0) = true := decide_eq_true h1
    go_enter Try.func65, Try.ntmps65
    go_wp2_with (go_at_call 74; refine (foNaN _ _).mono ?_; rintro e w' ⟨rfl, rfl⟩)
    go_ret
    exact ⟨rfl, rfl⟩
  · rw [if_neg h1] at h
    have d1 : decide (x < 0) = false := decide_eq_false h1
    by_cases h2 : x > 0
    · rw [if_pos h2] at h
      subst h
      have d2 : decide (0 < x) = true := decide_eq_true h2
      go_enter Try.func65, Try.ntmps65
      go_wp2_with (go_at_call 74; refine (foNaN _ _).mono ?_; rintro e w' ⟨rfl, rfl⟩)
      go_ret
      exact ⟨rfl, rfl⟩
    · rw [if_neg h2] at h
      subst h
      have d2 : decide (0 < x) = false := decide_eq_false h2
      go_enter Try.func65, Try.ntmps65
      go_wp2_with (go_at_call 74; refine (foNaN _ _).mono ?_; rintro e w' ⟨rfl, rfl⟩)
      go_ret
      exact ⟨rfl, rfl⟩
/-- The variables of unit propagation in memory: the values' row, the queue's row. -/
structure FS (base gv go gvr : Nat) (vals opn : List Int) (vo : Value) (W : World) : Prop where
  hv : W.heap[gv]? = some (.cells #[.slice (some ⟨gvr, 0, none⟩) vals.length vals.length] 39 (0, 0))
  hr : W.heap[gvr]? = some (.cells (vals.map (Value.int .i64)).toArray 3 (0, 0))
  ho : W.heap[go]? = some (.cells #[vo] 39 (0, 0))
  hq : Kd.Q (Kd.int .i64) 3 W base (fun k => k ≠ gvr) vo opn
  hne : gv ≠ go
  hbv : base ≤ gvr
  hbo : base ≤ go
/-- What setting a literal may turn. -/
def FT (gvr go : Nat) (vo : Value) (k : Nat) : Prop := k = gvr ∨ k = go ∨ some k = vo.ownBlock
def setV (vals : List Int) (n : Int) : List Int := if rd vals (foN n) = 0 then vals.set (foN n).toNat (foS n) else vals
def setO (vals opn : List Int) (n : Int) : List Int := if rd vals (foN n) = 0 then opn ++ [n] else opn
theorem setV_len (vals : List Int) (n : Int) : (setV vals n).length = vals.length := by unfold setV; split <;> simp
theorem FS.rowCell {base gv go gvr : Nat} {vals opn : List Int} {vo : Value} {W : World} (h : FS base gv go gvr vals opn vo W) (j : Nat) (hj : j < vals.length) : W.cell? ⟨gvr, j, none⟩ = some (.int .i64 (rd vals (j : Int))) := by
  rw [blk_cell h.hr]
  unfold rd
  rw [Int.toNat_natCast, List.getD_eq_getElem?_getD]
  simp [List.getElem?_eq_getElem hj]
theorem FS.drewN {base gv go gvr : Nat} {vals opn : List Int} {vo : Value} {W : World} (h : FS base gv go gvr vals opn vo W) (n : Nat) : FS base gv go gvr vals opn vo (W.drewN n) := ⟨h.hv, h.hr, h.ho, Kd.Q_drewN h.hq n, h.hne, h.hbv, h.hbo⟩
theorem FS.gvNe {base gv go gvr : Nat} {vals opn : List Int} {vo : Value} {W : World} (h : FS base gv go gvr vals opn vo W) : gv ≠ gvr := fun e => by
  have h1 := h.hv
  rw [e, h.hr] at h1
  injection h1 with h1
  injection h1 with _ h2
  exact absurd h2 (by decide)
theorem FS.goNe {base gv go gvr : Nat} {vals opn : List Int} {vo : Value} {W : World} (h : FS base gv go gvr vals opn vo W) : go ≠ gvr := fun e => by
  have h1 := h.ho
  rw [e, h.hr] at h1
  injection h1 with h1
  injection h1 with _ h2
  exact absurd h2 (by decide)
/-- A value is set. -/
theorem FS.set {base gv go gvr : Nat} {vals opn : List Int} {vo : Value} {W : World} (h : FS base gv go gvr vals opn vo W) (j : Nat) (s : Int) : FS base gv go gvr (vals.set j s) opn vo (W.setCell ⟨gvr, j, none⟩ (.int .i64 s)) := by
  refine ⟨?_, ?_, ?_, ?_, h.hne, h.hbv, h.hbo⟩
  · rw [List.length_set]
    exact (Below.heap_setCell _ _ _ _ h.gvNe).trans h.hv
  · have h1 := blk_set h.hr j (.int .i64 s)
    rw [h1]
    congr 2
    rw [List.setIfInBounds_toArray, List.map_set]
  · exact (Below.heap_setCell _ _ _ _ h.goNe).trans h.ho
  · exact Kd.Q_far (p := ⟨gvr, j, none⟩) h.hq (fun k hk => hk) _
theorem FS.gvrLt {base gv go gvr : Nat} {vals opn : List Int} {vo : Value} {W : World} (h : FS base gv go gvr vals opn vo W) : gvr < W.heap.size := blk_lt h.hr
theorem FS.goLt {base gv go gvr : Nat} {vals opn : List Int} {vo : Value} {W : World} (h : FS base gv go gvr vals opn vo W) : go < W.heap.size := blk_lt h.ho
theorem FS.goRow {base gv go gvr : Nat} {vals opn : List Int} {vo : Value} {W : World} (h : FS base gv go gvr vals opn vo W) : some go ≠ vo.ownBlock := fun e => by
  obtain ⟨cs, hc⟩ := Kd.Q_typed h.hq go e.symm
  rw [h.ho] at hc
  injection hc with hc
  injection hc with _ h2
  exact absurd h2 (by decide)
theorem FS.gvRow {base gv go gvr : Nat} {vals opn : List Int} {vo : Value} {W : World} (h : FS base gv go gvr vals opn vo W) : some gv ≠ vo.ownBlock := fun e => by
  obtain ⟨cs, hc⟩ := Kd.Q_typed h.hq gv e.symm
  rw [h.hv] at hc
  injection hc with hc
  injection hc with _ h2
  exact absurd h2 (by decide)
theorem FS.gvrRow {base gv go gvr : Nat} {vals opn : List Int} {vo : Value} {W : World} (h : FS base gv go gvr vals opn vo W) : some gvr ≠ vo.ownBlock := fun e => h.hq.1 gvr e.symm rfl
/-- The queue's row has been appended to: the queue's variable is written. -/
theorem FS.push {base gv go gvr : Nat} {vals opn opn' : List Int} {vo vo' : Value} {W W1 : World} (h : FS base gv go gvr vals opn vo W) (hg : W.grownBy W1 vo.ownBlock) (hq : Kd.Q (Kd.int .i64) 3 W1 base (fun k => k ≠ gvr) vo' opn') :
    FS base gv go gvr vals opn' vo' (W1.setCell ⟨go, 0, none⟩ vo') := by
  have hty : ∀ k, vo'.ownBlock = some k → k ≠ go := fun k e hk => by
    obtain ⟨cs, hc⟩ := Kd.Q_typed hq k e
    rw [hk, hg.block go h.goLt h.goRow, h.ho] at hc
    injection hc with hc
    injection hc with _ h2
    exact absurd h2 (by decide)
  have h1 : W1.heap[go]? = some (.cells #[vo] 39 (0, 0)) := (hg.block go h.goLt h.goRow).trans h.ho
  refine ⟨?_, ?_, ?_, ?_, h.hne, h.hbv, h.hbo⟩
  · exact (Below.heap_setCell _ _ _ _ h.hne).trans ((hg.block gv (blk_lt h.hv) h.gvRow).trans h.hv)
  · exact (Below.heap_setCell _ _ _ _ (fun e => h.goNe e.symm)).trans ((hg.block gvr h.gvrLt h.gvrRow).trans h.hr)
  · have h2 := blk_set h1 0 vo'
    rw [h2]
    rfl
  · exact Kd.Q_mono (Kd.Q_set hq h1 (by decide) 0 vo') (fun k hk => hk)
set_option maxHeartbeats 8000000 in
set_option maxRecDepth 100000 in
/-- 'set': a literal is made true where its variable has no value. -/
theorem foSet {base gv go gvr : Nat} {vals opn : List Int} {vo : Value} {w : World} (n : Int) (h : FS base gv go gvr vals opn vo w) (h1 : 0 ≤ foN n) (h2 : foN n < (vals.length : Int)) (hl : opn.length < 17592186044416) :
    Calls Try.prog 64 #[.int .i64 n, .pointer (some ⟨gv, 0, none⟩), .pointer (some ⟨go, 0, none⟩)] w fun e w' => e = .returned (.tuple #[]) ∧ ∃ vo', FS base gv go gvr (setV vals n) (setO vals opn n) vo' w' ∧ Kept w w' (FT gvr go vo) ∧ (vo'.ownBlock = vo.ownBlock ∨ ∃ b, vo'.ownBlock = some b ∧ w.heap.size ≤ b) ∧ Below base w w' := by
  obtain ⟨t, ht⟩ : ∃ t, foN n = t := ⟨_, rfl⟩
  rw [ht] at h1 h2
  obtain ⟨j, rfl⟩ := Int.eq_ofNat_of_zero_le h1
  have hj : j < vals.length := by omega
  have hcv : w.cell? ⟨gv, 0, none⟩ = some (.slice (some ⟨gvr, 0, none⟩) vals.length vals.length) := (blk_cell h.hv 0).trans rfl
  have hcr := h.rowCell j hj
  have hco : w.cell? ⟨go, 0, none⟩ = some vo := (blk_cell h.ho 0).trans rfl
  have HF := Aside0.mk h
  obtain ⟨q, hq⟩ : ∃ q, rd vals (j : Int) = q := ⟨_, rfl⟩
  rw [hq] at hcr
  have HN := Aside0.mk (fun w => foName n (j : Int) ht w)
  have HM := Aside0.mk (fun w => foName0 n (j : Int) ht w)
  have hbs : base ≤ w.heap.size := Nat.le_of_lt (Nat.lt_of_le_of_lt h.hbv h.gvrLt)
  have hbv := h.hbv
  have hbo := h.hbo
  obtain ⟨s, hs⟩ : ∃ s, foS n = s := ⟨_, rfl⟩
  have HC := Aside0.mk (fun w => foComp0 n s hs w)
  have b1 : decide ((j : Int) < (vals.length : Int)) = true := decide_eq_true h2
  have b2 : decide (j < vals.length) = true := decide_eq_true hj
  by_cases h0 : q = 0
  · subst h0
    clear h h1 h2
    have HT1 := Aside0.mk ht
    have HQ1 := Aside0.mk hq
    have HS1 := Aside0.mk hs
    clear ht hq hs
    go_enter Try.func64, Try.ntmps64
    go_wp2
    have p5 : ((0 : Int) ≤ (j : Int)) = True := eq_true (by omega)
    have q5 : ((j : Int) < (vals.length : Int)) = True := eq_true (by omega)
    go_quiet ((go_at_call 62; (with_reducible refine (HN.out _).mono ?_); rintro e w' ⟨rfl, ⟨nd, rfl⟩⟩; (try first | exact ⟨rfl, _, World.drewN_drewN _ _ _⟩ | exact ⟨rfl, _, Eq.trans (World.drewN_drewN _ _ _) (congrArg (World.drewN _) (Nat.add_assoc _ _ _))⟩)))
    go_wp2
    refine wp_region_still_tail 6 (by kernel_rfl) (by kernel_rfl) ?_
    simp only [List.take_succ_cons, List.take_zero, List.drop_succ_cons, List.drop_zero]
    change wpStill _ _ (w.drewN nq).drew _ _ _
    have HF1 := Aside0.mk (HF.out.drewN (nq + 1))
    change Aside0 (FS base gv go gvr vals opn vo (w.drewN nq).drew) at HF1
    have HK1 := Aside0.mk (show Below w.heap.size w (w.drewN nq).drew from below_drew1 (pw_below_drewN (Below.refl _ _) nq))
    change wpStill _ _ _ (fun a' => wpList _ _ _ _ a' (w.drewN nq).drew) _ _
    generalize (w.drewN nq).drew = W1 at HF1 HK1 ⊢
    have hcv1 : W1.cell? ⟨gv, 0, none⟩ = some (.slice (some ⟨gvr, 0, none⟩) vals.length vals.length) := (blk_cell HF1.out.hv 0).trans rfl
    have hcr1 := HF1.out.rowCell j hj
    have hfr1 : W1.frozen? ⟨gvr, j, none⟩ = false := blk_frozen HF1.out.hr j
    repeat (first | still_step | still_call (HM.out _) | still_call (HC.out _))
    refine wpStill_nil ?_
    go_upto_region 2 with (fail)
    have HF2 := Aside0.mk (HF1.out.set j s)
    have HK2 : Aside0 (Kept w (W1.setCell ⟨gvr, j, none⟩ (.int .i64 s)) (FT gvr go vo)) := ⟨⟨by have := HK1.out.size; simpa [World.setCell] using this, fun k hk hn => (Below.heap_setCell _ _ _ _ (fun e => hn (.inl e))).trans (HK1.out.block k hk)⟩⟩
    have HB2 := Aside0.mk (((HK1.out.mono hbs).setCell (p := ⟨gvr, j, none⟩) hbv (.int .i64 s)))
    clear hcv1 hcr1 hfr1 hcv hcr
    generalize W1.setCell ⟨gvr, j, none⟩ (.int .i64 s) = W2 at HF2 HK2 HB2 ⊢
    have hco2 : W2.cell? ⟨go, 0, none⟩ = some vo := (blk_cell HF2.out.ho 0).trans rfl
    clear hco
    go_wp2_with ((with_reducible refine gate_builtin (b := .append) (xs := #[.tmp 16, .tmp 18]) rfl ?_); at_builtin; refine Kd.Q_append (Kd.int .i64) (w0 := W2) base rfl (.tmp 16) (.tmp 18) 39 3 (.int .i64 0) 8 rfl Try.underlying39 info3 rfl (by decide) (by omega) vo opn n [.int .i64 n] (fun k => k ≠ gvr) (fun _ => False) rfl (by first | (go_simp; done) | (go_simp; rfl)) ?aP (fun _ hk => hk.elim) ?aF ?aO ?aB ?aS ?aL ?_; (case aP => exact rfl); (case aF => intro k hk e_; have hsz_ := HF2.out.gvrLt; omega); (case aO => exact HF2.out.hq); (case aB => exact Below.refl _ _); (case aS => exact Nat.le_of_lt (Nat.lt_of_le_of_lt HF2.out.hbv HF2.out.gvrLt)); (case aL => omega); intro v3 w3 hv hb3 hg3 hat3; obtain ⟨A3, c3, e3, _⟩ := Kd.Q_slice hv; subst e3; have HQ3 := Aside0.mk hv; have HG3 := Aside0.mk hg3; have HB3 := Aside0.mk hb3; have HA3 := Aside0.mk hat3; have hc3 : w3.cell? ⟨go, 0, none⟩ = some vo := (blk_cell ((hg3.block go HF2.out.goLt HF2.out.goRow).trans HF2.out.ho) 0).trans rfl; have hf3 : w3.frozen? ⟨go, 0, none⟩ = false := blk_frozen ((hg3.block go HF2.out.goLt HF2.out.goRow).trans HF2.out.ho) 0; clear hv hb3 hg3 hat3)
    go_end0
    have ev : setV vals n = vals.set j s := by unfold setV; rw [HT1.out, HQ1.out, if_pos rfl, HS1.out, Int.toNat_natCast]
    have eo : setO vals opn n = opn ++ [n] := by unfold setO; rw [HT1.out, HQ1.out, if_pos rfl]
    rw [ev, eo]
    have el : (opn ++ [n]).length = opn.length + 1 := by simp
    have hq4 := HQ3.out
    have ha4 := HA3.out
    rw [el] at hq4 ha4
    refine ⟨rfl, _, FS.push HF2.out HG3.out hq4, ⟨?_, fun k hk hn => ?_⟩, ?_, ?_⟩
    · have h1 := HK2.out.1
      have h2 := HG3.out.size
      simp only [World.setCell, Array.size_modify]
      omega
    · exact (Below.heap_setCell _ _ _ _ (fun e => hn (.inr (.inl e)))).trans ((HG3.out.block k (Nat.lt_of_lt_of_le hk HK2.out.1) (fun e => hn (.inr (.inr e)))).trans (HK2.out.2 k hk hn))
    · rcases ha4 with h1 | ⟨b, h1, h2⟩
      · exact .inl h1
      · exact .inr ⟨b, h1, Nat.le_trans HK2.out.1 h2⟩
    · exact (HB2.out.trans HB3.out).setCell (p := ⟨go, 0, none⟩) hbo _
  · have hd : decide (q = 0) = false := decide_eq_false h0
    have hbq : (q == 0) = false := beq_eq_false_iff_ne.mpr h0
    clear h h1 h2
    have HT1 := Aside0.mk ht
    have HQ1 := Aside0.mk hq
    clear ht hq hs
    go_enter Try.func64, Try.ntmps64
    go_wp2
    have p5 : ((0 : Int) ≤ (j : Int)) = True := eq_true (by omega)
    have q5 : ((j : Int) < (vals.length : Int)) = True := eq_true (by omega)
    go_quiet ((go_at_call 62; (with_reducible refine (HN.out _).mono ?_); rintro e w' ⟨rfl, ⟨nd, rfl⟩⟩; (try first | exact ⟨rfl, _, World.drewN_drewN _ _ _⟩ | exact ⟨rfl, _, Eq.trans (World.drewN_drewN _ _ _) (congrArg (World.drewN _) (Nat.add_assoc _ _ _))⟩)))
    go_wp2
    go_end0
    have ev : setV vals n = vals := by unfold setV; rw [HT1.out, HQ1.out, if_neg h0]
    have eo : setO vals opn n = opn := by unfold setO; rw [HT1.out, HQ1.out, if_neg h0]
    rw [ev, eo]
    exact ⟨rfl, _, HF.out.drewN _, ⟨Nat.le_refl _, fun _ _ _ => rfl⟩, .inl rfl, pw_below_drewN (Below.refl _ _) _⟩


-- HAND
/-! ### forced_look.lean -/
/-- Is a literal true (false) for values? -/
def foT (vals : List Int) (n : Int) : Bool := decide (0 < wrap64 (rd vals (foN n) * n))
def foF (vals : List Int) (n : Int) : Bool := decide (wrap64 (rd vals (foN n) * n) < 0)
set_option maxHeartbeats 4000000 in
theorem foTrue0 (vals : List Int) (gvr : Nat) (c : Nat) (n : Int) (j : Nat) (b : Bool) (ht : foN n = (j : Int)) (hj : j < vals.length) (hb : foT vals n = b) (w : World) (hc : w.cell? ⟨gvr, j, none⟩ = some (.int .i64 (rd vals (j : Int)))) :
    Calls Try.prog 75 #[.slice (some ⟨gvr, 0, none⟩) vals.length c, .int .i64 n] w fun e w' => e = .returned (.bool b) ∧ w' = w := by
  obtain ⟨q, hq⟩ : ∃ q, rd vals (j : Int) = q := ⟨_, rfl⟩
  have hb' : decide (0 < wrap64 (q * n)) = b := by rw [← hb]; unfold foT; rw [ht, hq]
  rw [hq] at hc
  have HM := Aside0.mk (fun w => foName0 n (j : Int) ht w)
  have HBB := Aside0.mk hb'
  have p5 : ((0 : Int) ≤ (j : Int)) = True := eq_true (by omega)
  have q5 : ((j : Int) < (vals.length : Int)) = True := eq_true (by omega)
  clear ht hq hb hb'
  go_enter Try.func75, Try.ntmps75
  go_wp2_with (go_at_call 62; refine (HM.out _).mono ?_; rintro e w' ⟨rfl, rfl⟩)
  go_ret
  exact ⟨by rw [← HBB.out]; rfl, rfl⟩
set_option maxHeartbeats 4000000 in
theorem foFalse0 (vals : List Int) (gvr : Nat) (c : Nat) (n : Int) (j : Nat) (b : Bool) (ht : foN n = (j : Int)) (hj : j < vals.length) (hb : foF vals n = b) (w : World) (hc : w.cell? ⟨gvr, j, none⟩ = some (.int .i64 (rd vals (j : Int)))) :
    Calls Try.prog 76 #[.slice (some ⟨gvr, 0, none⟩) vals.length c, .int .i64 n] w fun e w' => e = .returned (.bool b) ∧ w' = w := by
  obtain ⟨q, hq⟩ : ∃ q, rd vals (j : Int) = q := ⟨_, rfl⟩
  have hb' : decide (wrap64 (q * n) < 0) = b := by rw [← hb]; unfold foF; rw [ht, hq]
  rw [hq] at hc
  have HM := Aside0.mk (fun w => foName0 n (j : Int) ht w)
  have HBB := Aside0.mk hb'
  have p5 : ((0 : Int) ≤ (j : Int)) = True := eq_true (by omega)
  have q5 : ((j : Int) < (vals.length : Int)) = True := eq_true (by omega)
  clear ht hq hb hb'
  go_enter Try.func76, Try.ntmps76
  go_wp2_with (go_at_call 62; refine (HM.out _).mono ?_; rintro e w' ⟨rfl, rfl⟩)
  go_ret
  exact ⟨by rw [← HBB.out]; rfl, rfl⟩
/-- What lookAt answers. -/
def foLook (vals : List Int) : List Int → Int → Int × Bool
  | [], left => (left, decide (left = 0))
  | n :: r, left => if foT vals n = true then (0, false) else if foF vals n = true ∨ n = left then foLook vals r left else if left ≠ 0 then (0, false) else foLook vals r n
/-- The literals of a clause have places among the values. -/
def foOk (vals : List Int) (l : List Int) : Prop := ∀ n ∈ l, 0 ≤ foN n ∧ foN n < (vals.length : Int)
set_option maxHeartbeats 1600000 in
set_option maxRecDepth 100000 in
theorem foLookAt (vals l : List Int) (gvr : Nat) (c : Nat) (A : Option Addr) (cl : Nat) (r1 : Int) (r2 : Bool) (w : World) (hl : Kd.C (Kd.int .i64) w A l.length l) (hok : foOk vals l) (hc : ∀ j : Nat, j < vals.length → w.cell? ⟨gvr, j, none⟩ = some (.int .i64 (rd vals (j : Int)))) (hr : foLook vals l 0 = (r1, r2)) (hlen : l.length ≤ 1000000) :
    Calls Try.prog 67 #[.slice A l.length cl, .slice (some ⟨gvr, 0, none⟩) vals.length c] w fun e w' => e = .returned (.tuple #[.int .i64 r1, .bool r2]) ∧ w' = w := by
  have HL := Aside0.mk hl
  have HO := Aside0.mk hok
  have HC := Aside0.mk hc
  have HR := Aside0.mk hr
  clear hl hok hc hr
  go_enter Try.func67, Try.ntmps67
  go_wp2
  go_loop [6, 11] (fun v6 v11 => ∃ (k : Nat) (left : Int), k ≤ l.length ∧ v11 = .int .i64 (k : Int) ∧ v6 = .int .i64 left ∧ Aside0 (foLook vals (l.drop k) left = (r1, r2))) (fun _ v11 => l.length - (intOf v11).toNat)
  case atStart => exact ⟨0, 0, Nat.zero_le _, rfl, rfl, ⟨by rw [List.drop_zero]; exact HR.out⟩⟩
  case round =>
    obtain ⟨k, left, hk, rfl, rfl, HA⟩ := hrel
    by_cases hlt : k < l.length
    · have hltz : (k : Int) < (l.length : Int) := by omega
      obtain ⟨ad, e0, hx⟩ := Kd.at_int HL.out (k : Int) (by omega) hltz
      subst e0
      have hd : l.drop k = l[k] :: l.drop (k + 1) := List.drop_eq_getElem_cons hlt
      obtain ⟨x, hxe⟩ : ∃ x, l[k] = x := ⟨_, rfl⟩
      have hrdx : rd l (k : Int) = x := by unfold rd; rw [Int.toNat_natCast, List.getD_eq_getElem?_getD, List.getElem?_eq_getElem hlt]; exact hxe
      rw [hrdx, Int.toNat_natCast] at hx
      have hxo := HO.out l[k] (List.getElem_mem hlt)
      rw [hxe] at hxo
      obtain ⟨t, ht⟩ : ∃ t, foN x = t := ⟨_, rfl⟩
      rw [ht] at hxo
      obtain ⟨j, rfl⟩ := Int.eq_ofNat_of_zero_le hxo.1
      have hj : j < vals.length := by omega
      have hA := HA.out
      rw [hd, hxe] at hA
      simp only [foLook] at hA
      obtain ⟨b1, hb1⟩ : ∃ b, foT vals x = b := ⟨_, rfl⟩
      obtain ⟨b2, hb2⟩ : ∃ b, foF vals x = b := ⟨_, rfl⟩
      have C1 := Aside0.mk (foTrue0 vals gvr c x j b1 ht hj hb1 w (HC.out j hj))
      have C2 := Aside0.mk (foFalse0 vals gvr c x j b2 ht hj hb2 w (HC.out j hj))
      rw [hb1, hb2] at hA
      have p6 : ((0 : Int) ≤ (k : Int)) = True := eq_true (by omega)
      have q6 : ((k : Int) < (l.length : Int)) = True := eq_true (by omega)
      clear ht hb1 hb2 hxe hrdx hd hxo
      cases b1 with
      | true =>
        rw [if_pos rfl] at hA
        injection hA with h1 h2
        subst h1 h2
        go_wp2_with (first | (go_at_call 75; refine C1.out.mono ?_; rintro e w' ⟨rfl, rfl⟩) | (go_at_call 76; refine C2.out.mono ?_; rintro e w' ⟨rfl, rfl⟩))
        go_ret2
        exact ⟨rfl, rfl⟩
      | false =>
        rw [if_neg (by decide)] at hA
        cases b2 with
        | true =>
          rw [if_pos (.inl rfl)] at hA
          have HA1 := Aside0.mk hA
          clear hA
          go_wp2_with (first | (go_at_call 75; refine C1.out.mono ?_; rintro e w' ⟨rfl, rfl⟩) | (go_at_call 76; refine C2.out.mono ?_; rintro e w' ⟨rfl, rfl⟩))
          go_round
          case rel => exact ⟨k + 1, left, by omega, by go_num, by first | rfl | trivial, HA1⟩
          case measure => simp [intOf]; omega
        | false =>
          by_cases hn : x = left
          · subst hn
            rw [if_pos (.inr rfl)] at hA
            have HA1 := Aside0.mk hA
            clear hA
            go_wp2_with (first | (go_at_call 75; refine C1.out.mono ?_; rintro e w' ⟨rfl, rfl⟩) | (go_at_call 76; refine C2.out.mono ?_; rintro e w' ⟨rfl, rfl⟩))
            go_round
            case rel => exact ⟨k + 1, x, by omega, by go_num, by first | rfl | trivial, HA1⟩
            case measure => simp [intOf]; omega
          · have hnb : (x == left) = false := beq_eq_false_iff_ne.mpr hn
            rw [if_neg (by rintro (h | h); exact absurd h (by decide); exact hn h)] at hA
            by_cases h0 : left = 0
            · subst h0
              rw [if_neg (by simp)] at hA
              have HA1 := Aside0.mk hA
              clear hA hn
              go_wp2_with (first | (go_at_call 75; refine C1.out.mono ?_; rintro e w' ⟨rfl, rfl⟩) | (go_at_call 76; refine C2.out.mono ?_; rintro e w' ⟨rfl, rfl⟩))
              go_round
              case rel => exact ⟨k + 1, x, by omega, by go_num, by first | rfl | trivial, HA1⟩
              case measure => simp [intOf]; omega
            · have h0b : (left == 0) = false := beq_eq_false_iff_ne.mpr h0
              have h0c : (left != 0) = true := by simp [h0]
              rw [if_pos h0] at hA
              injection hA with h1 h2
              subst h1 h2
              clear hn h0
              go_wp2_with (first | (go_at_call 75; refine C1.out.mono ?_; rintro e w' ⟨rfl, rfl⟩) | (go_at_call 76; refine C2.out.mono ?_; rintro e w' ⟨rfl, rfl⟩))
              go_ret2
              exact ⟨rfl, rfl⟩
    · have hltz : ¬ (k : Int) < (l.length : Int) := by omega
      have hA := HA.out
      rw [List.drop_eq_nil_of_le (by omega)] at hA
      simp only [foLook, Prod.mk.injEq] at hA
      obtain ⟨rfl, rfl⟩ := hA
      go_wp2
      go_ret2
      exact ⟨by simp; rfl, rfl⟩


-- HAND
/-! ### forced_lookc.lean -/
theorem foRow {w : World} {A : Option Addr} {n : Nat} {xs : List (List Int)} (h : Kd.C (Kd.slice 3 (Kd.int .i64)) w A n xs) (i : Nat) (h1 : i < n) (hx : i < xs.length) : ∃ ad A0 c0, A = some ad ∧ w.cell? (ad.add i) = some (.slice A0 (xs[i]).length c0) ∧ (xs[i]).length ≤ c0 ∧ (Kd.int .i64).C w A0 (xs[i]).length (xs[i]) := by
  obtain ⟨ad, c, e, _, hK, hc0⟩ := Kd.C_get h ([] : List Int) (i : Int) (by omega) (by omega)
  have hc : ∀ j u, c[j]? = some u → w.cell? (ad.add ((i : Int).toNat * 1 + j)) = some u := hc0
  rw [Int.toNat_natCast, List.getD_eq_getElem?_getD, List.getElem?_eq_getElem hx, Option.getD_some] at hK
  obtain ⟨A0, c0, rfl, l0, g0⟩ := hK
  exact ⟨ad, A0, c0, e, by have hq := hc 0 _ rfl; rwa [Int.toNat_natCast, Nat.mul_one, Nat.add_zero] at hq, l0, g0⟩
/-- What the closures' own variables hold: they stay. -/
structure FB (gc gs gv go : Nat) (names : Int) (A : Option Addr) (n c : Nat) (W : World) : Prop where
  hc : W.heap[gc]? = some (.cells #[.int .i64 names, .slice A n c] 27 (0, 0))
  hs : W.heap[gs]? = some (.cells #[.func (.func 64) #[] #[.pointer (some ⟨gv, 0, none⟩), .pointer (some ⟨go, 0, none⟩)]] 85 (0, 0))
/-- One look at a clause: whether it is contrary; the values, the queue. -/
def lookV (vals : List Int) (l : List Int) : List Int := if (foLook vals l 0).1 = 0 then vals else setV vals (foLook vals l 0).1
def lookO (vals opn : List Int) (l : List Int) : List Int := if (foLook vals l 0).1 = 0 then opn else setO vals opn (foLook vals l 0).1
theorem foLook_mem (vals l : List Int) : ∀ left, (foLook vals l left).1 = 0 ∨ (foLook vals l left).1 = left ∨ (foLook vals l left).1 ∈ l := by
  induction l with
  | nil => intro left; exact .inr (.inl rfl)
  | cons n r ih =>
    intro left
    simp only [foLook]
    split
    · exact .inl rfl
    · split
      · rcases ih left with h | h | h
        · exact .inl h
        · exact .inr (.inl h)
        · exact .inr (.inr (List.mem_cons_of_mem _ h))
      · split
        · exact .inl rfl
        · rcases ih n with h | h | h
          · exact .inl h
          · exact .inr (.inr (by rw [h]; exact List.mem_cons_self))
          · exact .inr (.inr (List.mem_cons_of_mem _ h))
theorem FB.kept {gc gs gv go : Nat} {names : Int} {A : Option Addr} {n c : Nat} {W W' : World} (h : FB gc gs gv go names A n c W) {S : Nat → Prop} (hk : Kept W W' S) (h1 : ¬ S gc) (h2 : ¬ S gs) : FB gc gs gv go names A n c W' :=
  ⟨(hk.2 gc (blk_lt h.hc) h1).trans h.hc, (hk.2 gs (blk_lt h.hs) h2).trans h.hs⟩
set_option maxHeartbeats 1600000 in
set_option maxRecDepth 100000 in
/-- 'look'. -/
theorem foLookC {base gv go gvr gc gs : Nat} {vals opn : List Int} {vo : Value} {w : World} (names : Int) (A : Option Addr) (c : Nat) (L : List (List Int)) (i : Nat) (hi : i < L.length) (h : FS base gv go gvr vals opn vo w) (hb : FB gc gs gv go names A L.length c w)
    (hL : Kd.C (Kd.slice 3 (Kd.int .i64)) w A L.length L) (hok : foOk vals L[i]) (hll : L[i].length ≤ 1000000) (hLl : L.length ≤ 1000000) (hl : opn.length < 17592186044416) (cf : Bool) (hcf : (foLook vals L[i] 0).2 = cf) :
    Calls Try.prog 66 #[.int .i64 (i : Int), .pointer (some ⟨gc, 0, none⟩), .pointer (some ⟨gv, 0, none⟩), .pointer (some ⟨gs, 0, none⟩)] w fun e w' => e = .returned (.bool cf) ∧ ∃ vo', FS base gv go gvr (lookV vals L[i]) (lookO vals opn L[i]) vo' w' ∧ Kept w w' (FT gvr go vo) ∧ (vo'.ownBlock = vo.ownBlock ∨ ∃ b, vo'.ownBlock = some b ∧ w.heap.size ≤ b) ∧ Below base w w' := by
  obtain ⟨ad, A0, c0, e0, hx, hc0, hrow⟩ := foRow hL i hi hi
  subst e0
  obtain ⟨l, hle⟩ : ∃ l, L[i] = l := ⟨_, rfl⟩
  rw [hle] at hx hc0 hrow hok hll hcf ⊢
  obtain ⟨r1, hr1⟩ : ∃ r, (foLook vals l 0).1 = r := ⟨_, rfl⟩
  have hpair : foLook vals l 0 = (r1, cf) := by rw [← hr1, ← hcf]
  have hmem := foLook_mem vals l 0
  rw [hr1] at hmem
  have hcv : w.cell? ⟨gv, 0, none⟩ = some (.slice (some ⟨gvr, 0, none⟩) vals.length vals.length) := (blk_cell h.hv 0).trans rfl
  have hcc : w.cell? ⟨gc, 1, none⟩ = some (.slice (some ad) L.length c) := (blk_cell hb.hc 1).trans rfl
  have hcs : w.cell? ⟨gs, 0, none⟩ = some (.func (.func 64) #[] #[.pointer (some ⟨gv, 0, none⟩), .pointer (some ⟨go, 0, none⟩)]) := (blk_cell hb.hs 0).trans rfl
  have HLK : ∀ m, Calls Try.prog 67 #[.slice A0 l.length c0, .slice (some ⟨gvr, 0, none⟩) vals.length vals.length] (w.drewN m) fun e w' => e = .returned (.tuple #[.int .i64 r1, .bool cf]) ∧ Drawn0 (w.drewN m) w' := fun m =>
    (foLookAt vals l gvr vals.length A0 c0 r1 cf (w.drewN m) (Kd.C_drewN hrow m) hok (fun j hj => (World.cell?_drewN _ _ _).trans (h.rowCell j hj)) hpair hll).mono fun _ _ ⟨he, hw⟩ => ⟨he, hw ▸ Drawn0.refl _⟩
  have HF := Aside0.mk h
  have HLA := Aside0.mk HLK
  have hu := Try.underlying27
  have p5 : ((0 : Int) ≤ (i : Int)) = True := eq_true (by omega)
  have q5 : ((i : Int) < (L.length : Int)) = True := eq_true (by omega)
  have hlk : lookV vals l = (if r1 = 0 then vals else setV vals r1) ∧ lookO vals opn l = (if r1 = 0 then opn else setO vals opn r1) := by unfold lookV lookO; rw [hr1]; exact ⟨rfl, rfl⟩
  rw [hlk.1, hlk.2]
  have HOK := Aside0.mk hok
  have HME := Aside0.mk hmem
  clear h hpair hmem HLK hok hcf hr1 hlk hle hrow hL hb
  by_cases h0 : r1 = 0
  · subst h0
    rw [if_pos rfl, if_pos rfl]
    go_enter Try.func66, Try.ntmps66
    go_wp2
    go_quiet ((go_at_call 67; (first | (with_reducible refine (HLA.out _).mono ?_) | (with_reducible refine (HLA.out 0).mono ?_)); rintro e w' ⟨rfl, ⟨nd, rfl⟩⟩; (try first | exact ⟨rfl, _, World.drewN_drewN _ _ _⟩ | exact ⟨rfl, _, Eq.trans (World.drewN_drewN _ _ _) (congrArg (World.drewN _) (Nat.add_assoc _ _ _))⟩)))
    go_wp2
    go_ret
    exact ⟨rfl, vo, HF.out.drewN _, ⟨Nat.le_refl _, fun _ _ _ => rfl⟩, .inl rfl, pw_below_drewN (Below.refl _ _) _⟩
  · rw [if_neg h0, if_neg h0]
    have hrm : r1 ∈ l := by
      rcases HME.out with h | h | h
      · exact absurd h h0
      · exact absurd h h0
      · exact h
    have hro := HOK.out r1 hrm
    have HS := Aside0.mk (fun m => foSet r1 (HF.out.drewN m) hro.1 hro.2 hl)
    have h0c : (r1 != 0) = true := by simp [h0]
    have h0b : (r1 == 0) = false := beq_eq_false_iff_ne.mpr h0
    have hdc : decide (r1 = 0) = false := decide_eq_false h0
    clear hro hrm h0
    go_enter Try.func66, Try.ntmps66
    go_wp2
    go_quiet ((go_at_call 67; (first | (with_reducible refine (HLA.out _).mono ?_) | (with_reducible refine (HLA.out 0).mono ?_)); rintro e w' ⟨rfl, ⟨nd, rfl⟩⟩; (try first | exact ⟨rfl, _, World.drewN_drewN _ _ _⟩ | exact ⟨rfl, _, Eq.trans (World.drewN_drewN _ _ _) (congrArg (World.drewN _) (Nat.add_assoc _ _ _))⟩)))
    go_wp2_with (go_at_call 64; (with_reducible refine (HS.out _).mono ?_); rintro e w2 ⟨rfl, hp⟩; have HP := Aside0.mk hp; clear hp)
    go_ret
    obtain ⟨vo', q1, q2, q3, q4⟩ := HP.out
    exact ⟨rfl, vo', q1, ⟨q2.1, fun k hk hn => q2.2 k hk hn⟩, q3, ⟨q4.os, q4.tape, q4.output, q4.size, q4.block⟩⟩

end Go.Proofs.Ytdmngodinbelfaa.X
