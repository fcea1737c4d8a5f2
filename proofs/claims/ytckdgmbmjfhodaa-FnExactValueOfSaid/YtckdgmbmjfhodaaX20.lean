/- Each Go function as a Lean function, with the proof that the call comes to just its answer; or a law's row out of its pure statement. Conditions: the arguments are of their kinds. Written by this session's program wip/xp/xp.sh. -/
import Derived.Test.YtckdgmbmjfhodaaX0
import Derived.Test.YtckdgmbmjfhodaaX2
import Derived.Test.YtckdgmbmjfhodaaX19
namespace Go.Proofs.Ytckdgmbmjfhodaa.X
open Go.RowKit Go.Proofs.YtckdgmbmjfhodaaW.PrintWords Go.Proofs.YtckdgmbmjfhodaaW.PrintLast Go.Proofs.YtckdgmbmjfhodaaW.PrintMore
attribute [local go_sem] max2_int min2_int max_two min_two max_three min_three max_four min_four   -- for this text's walks alone
set_option linter.unusedVariables false
set_option linter.unusedSimpArgs false

/-! ### spec_l2Do: function 60 -/
mutual
def spec_l2Do.j0 : Nat → Int → Int → Int → Int → Bool → Option (Int)
  | 0, _, _, _, _, _ => none
  | k + 1, x0, x2, x3, x20, x48 => if x48 = true then (some (Go.bits .and .u64 x2 x3)) else (if x20 = 9 then (spec_l2Do.j1 k x0 x2 x3 x20 (x20 == 9)) else (spec_l2Do.j1 k x0 x2 x3 x20 (x20 == 18)))
def spec_l2Do.j1 : Nat → Int → Int → Int → Int → Bool → Option (Int)
  | 0, _, _, _, _, _ => none
  | k + 1, x0, x2, x3, x20, x54 => if x54 = true then (some (Go.bits .or .u64 x2 x3)) else (if x20 = 10 then (some (Go.bits .xor .u64 x2 x3)) else (if x20 = 11 then ((spec_l1Shift.f k x0 x2 x3 true).bind fun t277 => (some t277)) else (if x20 = 12 then ((spec_l1Shift.f k x0 x2 x3 false).bind fun t278 => (some t278)) else (if x20 = 14 then ((spec_l2Bool.f (x2 == x3)).bind fun t279 => (some t279)) else (if x20 = 15 then ((spec_l2Bool.f (decide (x2 < x3))).bind fun t280 => (some t280)) else (if x20 = 16 then ((spec_l1Signed.f k x0 x2).bind fun t281 => ((spec_l1Signed.f k x0 x3).bind fun t282 => ((spec_l2Bool.f (decide (t281 < t282))).bind fun t283 => (some t283)))) else (some 0)))))))
end
def spec_l2Do.f (k : Nat) (a0 : Int) (a1 : Int) (a2 : Int) (a3 : Int) : Option (Int) := (spec_DivWord.f k a0 a2 a3).bind fun bt271 => (if a1 = 3 then ((spec_l1Cut.f k a0 (IntKind.u64.wrap (a2 + a3))).bind fun t274 => (some t274)) else (if a1 = 4 then ((spec_l1Cut.f k a0 (IntKind.u64.wrap (a2 - a3))).bind fun t275 => (some t275)) else (if a1 = 5 then ((spec_l1Cut.f k a0 (IntKind.u64.wrap (a2 * a3))).bind fun t276 => (some t276)) else (if a1 = 6 then (some bt271.1) else (if a1 = 7 then (some bt271.2.1) else (if a1 = 8 then (spec_l2Do.j0 k a0 a2 a3 a1 (a1 == 8)) else (spec_l2Do.j0 k a0 a2 a3 a1 (a1 == 17))))))))
theorem spec_l2Do.mono_l : ∀ k, (∀ y0 y1 y2 y3 y4, LeO (spec_l2Do.j0 k y0 y1 y2 y3 y4) (spec_l2Do.j0 (k + 1) y0 y1 y2 y3 y4)) ∧ (∀ y0 y1 y2 y3 y4, LeO (spec_l2Do.j1 k y0 y1 y2 y3 y4) (spec_l2Do.j1 (k + 1) y0 y1 y2 y3 y4))
  | 0 => ⟨fun _ _ _ _ _ r h => by simp [spec_l2Do.j0] at h, fun _ _ _ _ _ r h => by simp [spec_l2Do.j1] at h⟩
  | k + 1 => by
    obtain ⟨ih0, ih1⟩ := spec_l2Do.mono_l k
    refine ⟨?_, ?_⟩
    · intro y0 y1 y2 y3 y4
      unfold spec_l2Do.j0
      repeat' first
      | (with_reducible exact ih0 _ _ _ _ _)
      | (with_reducible exact ih1 _ _ _ _ _)
      | (with_reducible exact spec_DivWord.mono _ _ _ _)
      | (with_reducible exact spec_l1Cut.mono _ _ _)
      | (with_reducible exact spec_l1Shift.mono _ _ _ _ _)
      | (with_reducible exact spec_l1Signed.mono _ _ _)
      | (with_reducible exact LeO.refl _)
      | (with_reducible exact LeO.none _)
      | (with_reducible refine LeO.ite ?_ ?_)
      | (with_reducible refine LeO.bind ?_ (fun _ => ?_))
      | exact ih0 _ _ _ _ _
      | exact ih1 _ _ _ _ _
      | exact spec_DivWord.mono _ _ _ _
      | exact spec_l1Cut.mono _ _ _
      | exact spec_l1Shift.mono _ _ _ _ _
      | exact spec_l1Signed.mono _ _ _
      | exact LeO.none _
      | refine LeO.ite ?_ ?_
      | refine LeO.bind ?_ (fun _ => ?_)
    · intro y0 y1 y2 y3 y4
      unfold spec_l2Do.j1
      repeat' first
      | (with_reducible exact ih0 _ _ _ _ _)
      | (with_reducible exact ih1 _ _ _ _ _)
      | (with_reducible exact spec_DivWord.mono _ _ _ _)
      | (with_reducible exact spec_l1Cut.mono _ _ _)
      | (with_reducible exact spec_l1Shift.mono _ _ _ _ _)
      | (with_reducible exact spec_l1Signed.mono _ _ _)
      | (with_reducible exact LeO.refl _)
      | (with_reducible exact LeO.none _)
      | (with_reducible refine LeO.ite ?_ ?_)
      | (with_reducible refine LeO.bind ?_ (fun _ => ?_))
      | exact ih0 _ _ _ _ _
      | exact ih1 _ _ _ _ _
      | exact spec_DivWord.mono _ _ _ _
      | exact spec_l1Cut.mono _ _ _
      | exact spec_l1Shift.mono _ _ _ _ _
      | exact spec_l1Signed.mono _ _ _
      | exact LeO.none _
      | refine LeO.ite ?_ ?_
      | refine LeO.bind ?_ (fun _ => ?_)
theorem spec_l2Do.mono : ∀ a0 a1 a2 a3 k, LeO (spec_l2Do.f k a0 a1 a2 a3) (spec_l2Do.f (k + 1) a0 a1 a2 a3) := by
  intro a0 a1 a2 a3 k
  obtain ⟨ih0, ih1⟩ := spec_l2Do.mono_l k
  unfold spec_l2Do.f
  repeat' first
      | (with_reducible exact ih0 _ _ _ _ _)
      | (with_reducible exact ih1 _ _ _ _ _)
      | (with_reducible exact spec_DivWord.mono _ _ _ _)
      | (with_reducible exact spec_l1Cut.mono _ _ _)
      | (with_reducible exact spec_l1Shift.mono _ _ _ _ _)
      | (with_reducible exact spec_l1Signed.mono _ _ _)
      | (with_reducible exact LeO.refl _)
      | (with_reducible exact LeO.none _)
      | (with_reducible refine LeO.ite ?_ ?_)
      | (with_reducible refine LeO.bind ?_ (fun _ => ?_))
      | exact ih0 _ _ _ _ _
      | exact ih1 _ _ _ _ _
      | exact spec_DivWord.mono _ _ _ _
      | exact spec_l1Cut.mono _ _ _
      | exact spec_l1Shift.mono _ _ _ _ _
      | exact spec_l1Signed.mono _ _ _
      | exact LeO.none _
      | refine LeO.ite ?_ ?_
      | refine LeO.bind ?_ (fun _ => ?_)
set_option maxHeartbeats 8000000 in
set_option maxRecDepth 100000 in
theorem spec_l2Do.calls (k : Nat) (a0 : Int) (a1 : Int) (a2 : Int) (a3 : Int) (r : Int) (w : World) (h : spec_l2Do.f k a0 a1 a2 a3 = some r) :
    Calls Try.prog 60 #[.int .i64 a0, .int .i64 a1, .int .u64 a2, .int .u64 a3] w fun e w' => e = .returned (.int .u64 r) ∧ Drawn0 w w' := by
  have H : ((spec_DivWord.f k a0 a2 a3).bind fun bt271 => (if a1 = 3 then ((spec_l1Cut.f k a0 (IntKind.u64.wrap (a2 + a3))).bind fun t274 => (some t274)) else (if a1 = 4 then ((spec_l1Cut.f k a0 (IntKind.u64.wrap (a2 - a3))).bind fun t275 => (some t275)) else (if a1 = 5 then ((spec_l1Cut.f k a0 (IntKind.u64.wrap (a2 * a3))).bind fun t276 => (some t276)) else (if a1 = 6 then (some bt271.1) else (if a1 = 7 then (some bt271.2.1) else (if a1 = 8 then (spec_l2Do.j0 k a0 a2 a3 a1 (a1 == 8)) else (spec_l2Do.j0 k a0 a2 a3 a1 (a1 == 17))))))))) = some r := h
  clear h
  replace H := Option.bind_eq_some_iff.mp H
  obtain ⟨⟨t271, t272, t273⟩, A50, H⟩ := H
  replace H : (if a1 = 3 then ((spec_l1Cut.f k a0 (IntKind.u64.wrap (a2 + a3))).bind fun t274 => (some t274)) else (if a1 = 4 then ((spec_l1Cut.f k a0 (IntKind.u64.wrap (a2 - a3))).bind fun t275 => (some t275)) else (if a1 = 5 then ((spec_l1Cut.f k a0 (IntKind.u64.wrap (a2 * a3))).bind fun t276 => (some t276)) else (if a1 = 6 then (some t271) else (if a1 = 7 then (some t272) else (if a1 = 8 then (spec_l2Do.j0 k a0 a2 a3 a1 (a1 == 8)) else (spec_l2Do.j0 k a0 a2 a3 a1 (a1 == 17)))))))) = some r := H
  have A5 := Aside0.mk A50
  clear A50
  by_cases c6 : a1 = 3
  · rw [if_pos c6] at H
    have c6b0 : (a1 == 3) = true := beq_iff_eq.mpr c6
    have c6b1 : (a1 != 3) = false := bne_eq_false_iff_eq.mpr c6
    clear c6
    replace H := Option.bind_eq_some_iff.mp H
    obtain ⟨t274, A70, H⟩ := H
    replace H : (some t274) = some r := H
    have A7 := Aside0.mk A70
    clear A70
    obtain rfl := Option.some.inj H
    go_enter Try.func60, Try.ntmps60
    go_wp2_with (first | ((with_reducible refine gate_callee (f := 24) rfl ?_); refine goesL_ (some 16) rfl rfl Try.func24 (by kernel_rfl) rfl #[.int .i64 a0, .int .u64 a2, .int .u64 a3] rfl qG ?_; (with_reducible refine (spec_DivWord.calls k a0 a2 a3 t271 t272 t273 _ A5.out).mono ?_); rintro e w' ⟨rfl, ⟨nd, rfl⟩⟩; refine ⟨_, rfl, ?_⟩) | ((with_reducible refine gate_callee (f := 43) rfl ?_); refine goesL_ (some 27) rfl rfl Try.func43 (by kernel_rfl) rfl #[.int .i64 a0, .int .u64 (IntKind.u64.wrap (a2 + a3))] rfl qG ?_; (with_reducible refine (spec_l1Cut.calls k a0 (IntKind.u64.wrap (a2 + a3)) t274 _ A7.out).mono ?_); rintro e w' ⟨rfl, ⟨nd, rfl⟩⟩; refine ⟨_, rfl, ?_⟩))
    go_ret
    exact ⟨by first | rfl | (simp; done) | (simp [*]; done), by repeat (first | exact Drawn0.refl _ | apply Drawn0.step)⟩
  · rw [if_neg c6] at H
    have c6b0 : (a1 == 3) = false := beq_eq_false_iff_ne.mpr c6
    have c6b1 : (a1 != 3) = true := bne_iff_ne.mpr c6
    by_cases c8 : a1 = 4
    · rw [if_pos c8] at H
      have c8b0 : (a1 == 4) = true := beq_iff_eq.mpr c8
      have c8b1 : (a1 != 4) = false := bne_eq_false_iff_eq.mpr c8
      clear c8
      replace H := Option.bind_eq_some_iff.mp H
      obtain ⟨t275, A90, H⟩ := H
      replace H : (some t275) = some r := H
      have A9 := Aside0.mk A90
      clear A90
      obtain rfl := Option.some.inj H
      go_enter Try.func60, Try.ntmps60
      go_wp2_with (first | ((with_reducible refine gate_callee (f := 24) rfl ?_); refine goesL_ (some 16) rfl rfl Try.func24 (by kernel_rfl) rfl #[.int .i64 a0, .int .u64 a2, .int .u64 a3] rfl qG ?_; (with_reducible refine (spec_DivWord.calls k a0 a2 a3 t271 t272 t273 _ A5.out).mono ?_); rintro e w' ⟨rfl, ⟨nd, rfl⟩⟩; refine ⟨_, rfl, ?_⟩) | ((with_reducible refine gate_callee (f := 43) rfl ?_); refine goesL_ (some 34) rfl rfl Try.func43 (by kernel_rfl) rfl #[.int .i64 a0, .int .u64 (IntKind.u64.wrap (a2 - a3))] rfl qG ?_; (with_reducible refine (spec_l1Cut.calls k a0 (IntKind.u64.wrap (a2 - a3)) t275 _ A9.out).mono ?_); rintro e w' ⟨rfl, ⟨nd, rfl⟩⟩; refine ⟨_, rfl, ?_⟩))
      go_ret
      exact ⟨by first | rfl | (simp; done) | (simp [*]; done), by repeat (first | exact Drawn0.refl _ | apply Drawn0.step)⟩
    · rw [if_neg c8] at H
      have c8b0 : (a1 == 4) = false := beq_eq_false_iff_ne.mpr c8
      have c8b1 : (a1 != 4) = true := bne_iff_ne.mpr c8
      by_cases c10 : a1 = 5
      · rw [if_pos c10] at H
        have c10b0 : (a1 == 5) = true := beq_iff_eq.mpr c10
        have c10b1 : (a1 != 5) = false := bne_eq_false_iff_eq.mpr c10
        clear c10
        replace H := Option.bind_eq_some_iff.mp H
        obtain ⟨t276, A110, H⟩ := H
        replace H : (some t276) = some r := H
        have A11 := Aside0.mk A110
        clear A110
        obtain rfl := Option.some.inj H
        go_enter Try.func60, Try.ntmps60
        go_wp2_with (first | ((with_reducible refine gate_callee (f := 24) rfl ?_); refine goesL_ (some 16) rfl rfl Try.func24 (by kernel_rfl) rfl #[.int .i64 a0, .int .u64 a2, .int .u64 a3] rfl qG ?_; (with_reducible refine (spec_DivWord.calls k a0 a2 a3 t271 t272 t273 _ A5.out).mono ?_); rintro e w' ⟨rfl, ⟨nd, rfl⟩⟩; refine ⟨_, rfl, ?_⟩) | ((with_reducible refine gate_callee (f := 43) rfl ?_); refine goesL_ (some 41) rfl rfl Try.func43 (by kernel_rfl) rfl #[.int .i64 a0, .int .u64 (IntKind.u64.wrap (a2 * a3))] rfl qG ?_; (with_reducible refine (spec_l1Cut.calls k a0 (IntKind.u64.wrap (a2 * a3)) t276 _ A11.out).mono ?_); rintro e w' ⟨rfl, ⟨nd, rfl⟩⟩; refine ⟨_, rfl, ?_⟩))
        go_ret
        exact ⟨by first | rfl | (simp; done) | (simp [*]; done), by repeat (first | exact Drawn0.refl _ | apply Drawn0.step)⟩
      · rw [if_neg c10] at H
        have c10b0 : (a1 == 5) = false := beq_eq_false_iff_ne.mpr c10
        have c10b1 : (a1 != 5) = true := bne_iff_ne.mpr c10
        by_cases c12 : a1 = 6
        · rw [if_pos c12] at H
          have c12b0 : (a1 == 6) = true := beq_iff_eq.mpr c12
          have c12b1 : (a1 != 6) = false := bne_eq_false_iff_eq.mpr c12
          clear c12
          obtain rfl := Option.some.inj H
          go_enter Try.func60, Try.ntmps60
          go_wp2_with (first | ((with_reducible refine gate_callee (f := 24) rfl ?_); refine goesL_ (some 16) rfl rfl Try.func24 (by kernel_rfl) rfl #[.int .i64 a0, .int .u64 a2, .int .u64 a3] rfl qG ?_; (with_reducible refine (spec_DivWord.calls k a0 a2 a3 t271 t272 t273 _ A5.out).mono ?_); rintro e w' ⟨rfl, ⟨nd, rfl⟩⟩; refine ⟨_, rfl, ?_⟩))
          go_ret
          exact ⟨by first | rfl | (simp; done) | (simp [*]; done), by repeat (first | exact Drawn0.refl _ | apply Drawn0.step)⟩
        · rw [if_neg c12] at H
          have c12b0 : (a1 == 6) = false := beq_eq_false_iff_ne.mpr c12
          have c12b1 : (a1 != 6) = true := bne_iff_ne.mpr c12
          by_cases c13 : a1 = 7
          · rw [if_pos c13] at H
            have c13b0 : (a1 == 7) = true := beq_iff_eq.mpr c13
            have c13b1 : (a1 != 7) = false := bne_eq_false_iff_eq.mpr c13
            clear c13
            obtain rfl := Option.some.inj H
            go_enter Try.func60, Try.ntmps60
            go_wp2_with (first | ((with_reducible refine gate_callee (f := 24) rfl ?_); refine goesL_ (some 16) rfl rfl Try.func24 (by kernel_rfl) rfl #[.int .i64 a0, .int .u64 a2, .int .u64 a3] rfl qG ?_; (with_reducible refine (spec_DivWord.calls k a0 a2 a3 t271 t272 t273 _ A5.out).mono ?_); rintro e w' ⟨rfl, ⟨nd, rfl⟩⟩; refine ⟨_, rfl, ?_⟩))
            go_ret
            exact ⟨by first | rfl | (simp; done) | (simp [*]; done), by repeat (first | exact Drawn0.refl _ | apply Drawn0.step)⟩
          · rw [if_neg c13] at H
            have c13b0 : (a1 == 7) = false := beq_eq_false_iff_ne.mpr c13
            have c13b1 : (a1 != 7) = true := bne_iff_ne.mpr c13
            have HC14 := Aside0.mk H
            clear H
            go_enter Try.func60, Try.ntmps60
            go_upto_if 48 with (first | ((with_reducible refine gate_callee (f := 24) rfl ?_); refine goesL_ (some 16) rfl rfl Try.func24 (by kernel_rfl) rfl #[.int .i64 a0, .int .u64 a2, .int .u64 a3] rfl qG ?_; (with_reducible refine (spec_DivWord.calls k a0 a2 a3 t271 t272 t273 _ A5.out).mono ?_); rintro e w' ⟨rfl, ⟨nd, rfl⟩⟩; refine ⟨_, rfl, ?_⟩))
            (try simp only [Act.put, List.setIfInBounds_toArray, List.set_cons_zero, List.set_cons_succ])
            go_cut [48] (fun v48 wc => ∃ (kq : Nat) (x48_13 : Bool), v48 = .bool x48_13 ∧ Aside0 (spec_l2Do.j0 kq a0 a2 a3 a1 x48_13 = some r) ∧ Aside0 (kq ≤ k) ∧ Drawn0 w wc)
            case first =>
              have H := HC14.out
              clear HC14
              by_cases c15 : a1 = 8
              · rw [if_pos c15] at H
                have c15b0 : (a1 == 8) = true := beq_iff_eq.mpr c15
                have c15b1 : (a1 != 8) = false := bne_eq_false_iff_eq.mpr c15
                clear c15
                (first | rw [c15b0] | (simp only [i64_w, i32_w]; rw [c15b0]) | skip)
                have H' := Aside0.mk H
                clear H
                go_wp2
                go_meet
                case rel => exact ⟨_, ((a1 == 8)), qS, H', ⟨by first | omega | exact Nat.le_refl _⟩, by repeat (first | exact Drawn0.refl _ | apply Drawn0.step)⟩
              · rw [if_neg c15] at H
                have c15b0 : (a1 == 8) = false := beq_eq_false_iff_ne.mpr c15
                have c15b1 : (a1 != 8) = true := bne_iff_ne.mpr c15
                (first | rw [c15b0] | (simp only [i64_w, i32_w]; rw [c15b0]) | skip)
                have H' := Aside0.mk H
                clear H
                go_wp2
                go_meet
                case rel => exact ⟨_, ((a1 == 17)), qS, H', ⟨by first | omega | exact Nat.le_refl _⟩, by repeat (first | exact Drawn0.refl _ | apply Drawn0.step)⟩
            case rest =>
              clear HC14
              try clear c1
              try clear c2
              try clear p2
              try clear c4
              try clear c6
              try clear c6b0
              try clear c6b1
              try clear c8
              try clear c8b0
              try clear c8b1
              try clear c10
              try clear c10b0
              try clear c10b1
              try clear c12
              try clear c12b0
              try clear c12b1
              try clear c13
              try clear c13b0
              try clear c13b1
              try clear c15
              try clear c15b0
              try clear c15b1
              obtain ⟨kq, x48_13, rfl, HA, HJ13, ⟨mc13, rfl⟩⟩ := hcut
              cases kq with
              | zero => exact absurd HA.out (by simp [spec_l2Do.j0])
              | succ kj13 =>
                have H := HA.out
                clear HA
                simp only [spec_l2Do.j0] at H
                by_cases c16 : x48_13 = true
                · subst c16
                  have H1 : (some (Go.bits .and .u64 a2 a3)) = some r := by rw [if_pos rfl] at H; exact H
                  clear H
                  have H := H1
                  clear H1
                  obtain rfl := Option.some.inj H
                  go_wp2
                  go_ret
                  exact ⟨by first | rfl | (simp; done) | (simp [*]; done), by repeat (first | exact Drawn0.refl _ | apply Drawn0.step)⟩
                · replace c16 := Bool.eq_false_iff.mpr c16
                  subst c16
                  have H1 : (if a1 = 9 then (spec_l2Do.j1 kj13 a0 a2 a3 a1 (a1 == 9)) else (spec_l2Do.j1 kj13 a0 a2 a3 a1 (a1 == 18))) = some r := by rw [if_neg (show ¬ (false = true) by decide)] at H; exact H
                  clear H
                  have H := H1
                  clear H1
                  have HC17 := Aside0.mk H
                  clear H
                  go_upto_if 54 with (fail)
                  go_cut [54] (fun v54 wc => ∃ (kq : Nat) (x54_16 : Bool), v54 = .bool x54_16 ∧ Aside0 (spec_l2Do.j1 kq a0 a2 a3 a1 x54_16 = some r) ∧ Aside0 (kq ≤ kj13) ∧ Drawn0 w wc)
                  case first =>
                    have H := HC17.out
                    clear HC17
                    by_cases c18 : a1 = 9
                    · rw [if_pos c18] at H
                      have c18b0 : (a1 == 9) = true := beq_iff_eq.mpr c18
                      have c18b1 : (a1 != 9) = false := bne_eq_false_iff_eq.mpr c18
                      clear c18
                      (first | rw [c18b0] | (simp only [i64_w, i32_w]; rw [c18b0]) | skip)
                      have H' := Aside0.mk H
                      clear H
                      go_wp2
                      go_meet
                      case rel => exact ⟨_, ((a1 == 9)), qS, H', ⟨by have := HJ13.out; first | omega | exact Nat.le_refl _⟩, by repeat (first | exact Drawn0.refl _ | apply Drawn0.step)⟩
                    · rw [if_neg c18] at H
                      have c18b0 : (a1 == 9) = false := beq_eq_false_iff_ne.mpr c18
                      have c18b1 : (a1 != 9) = true := bne_iff_ne.mpr c18
                      (first | rw [c18b0] | (simp only [i64_w, i32_w]; rw [c18b0]) | skip)
                      have H' := Aside0.mk H
                      clear H
                      go_wp2
                      go_meet
                      case rel => exact ⟨_, ((a1 == 18)), qS, H', ⟨by have := HJ13.out; first | omega | exact Nat.le_refl _⟩, by repeat (first | exact Drawn0.refl _ | apply Drawn0.step)⟩
                  case rest =>
                    clear HC17
                    try clear c1
                    try clear c2
                    try clear p2
                    try clear c4
                    try clear c6
                    try clear c6b0
                    try clear c6b1
                    try clear c8
                    try clear c8b0
                    try clear c8b1
                    try clear c10
                    try clear c10b0
                    try clear c10b1
                    try clear c12
                    try clear c12b0
                    try clear c12b1
                    try clear c13
                    try clear c13b0
                    try clear c13b1
                    try clear c15
                    try clear c15b0
                    try clear c15b1
                    try clear c16
                    try clear c18
                    try clear c18b0
                    try clear c18b1
                    try clear p2
                    obtain ⟨kq, x54_16, rfl, HA, HJ16, ⟨mc16, rfl⟩⟩ := hcut
                    cases kq with
                    | zero => exact absurd HA.out (by simp [spec_l2Do.j1])
                    | succ kj16 =>
                      have H := HA.out
                      clear HA
                      simp only [spec_l2Do.j1] at H
                      by_cases c19 : x54_16 = true
                      · subst c19
                        have H1 : (some (Go.bits .or .u64 a2 a3)) = some r := by rw [if_pos rfl] at H; exact H
                        clear H
                        have H := H1
                        clear H1
                        obtain rfl := Option.some.inj H
                        go_wp2
                        go_ret
                        exact ⟨by first | rfl | (simp; done) | (simp [*]; done), by repeat (first | exact Drawn0.refl _ | apply Drawn0.step)⟩
                      · replace c19 := Bool.eq_false_iff.mpr c19
                        subst c19
                        have H1 : (if a1 = 10 then (some (Go.bits .xor .u64 a2 a3)) else (if a1 = 11 then ((spec_l1Shift.f kj16 a0 a2 a3 true).bind fun t277 => (some t277)) else (if a1 = 12 then ((spec_l1Shift.f kj16 a0 a2 a3 false).bind fun t278 => (some t278)) else (if a1 = 14 then ((spec_l2Bool.f (a2 == a3)).bind fun t279 => (some t279)) else (if a1 = 15 then ((spec_l2Bool.f (decide (a2 < a3))).bind fun t280 => (some t280)) else (if a1 = 16 then ((spec_l1Signed.f kj16 a0 a2).bind fun t281 => ((spec_l1Signed.f kj16 a0 a3).bind fun t282 => ((spec_l2Bool.f (decide (t281 < t282))).bind fun t283 => (some t283)))) else (some 0))))))) = some r := by rw [if_neg (show ¬ (false = true) by decide)] at H; exact H
                        clear H
                        have H := H1
                        clear H1
                        by_cases c20 : a1 = 10
                        · rw [if_pos c20] at H
                          have c20b0 : (a1 == 10) = true := beq_iff_eq.mpr c20
                          have c20b1 : (a1 != 10) = false := bne_eq_false_iff_eq.mpr c20
                          clear c20
                          obtain rfl := Option.some.inj H
                          go_wp2
                          go_ret
                          exact ⟨by first | rfl | (simp; done) | (simp [*]; done), by repeat (first | exact Drawn0.refl _ | apply Drawn0.step)⟩
                        · rw [if_neg c20] at H
                          have c20b0 : (a1 == 10) = false := beq_eq_false_iff_ne.mpr c20
                          have c20b1 : (a1 != 10) = true := bne_iff_ne.mpr c20
                          by_cases c21 : a1 = 11
                          · rw [if_pos c21] at H
                            have c21b0 : (a1 == 11) = true := beq_iff_eq.mpr c21
                            have c21b1 : (a1 != 11) = false := bne_eq_false_iff_eq.mpr c21
                            clear c21
                            replace H := Option.bind_eq_some_iff.mp H
                            obtain ⟨t277, A220, H⟩ := H
                            replace H : (some t277) = some r := H
                            have A22 := Aside0.mk A220
                            clear A220
                            obtain rfl := Option.some.inj H
                            go_wp2_with (first | ((with_reducible refine gate_callee (f := 71) rfl ?_); refine goesL_ (some 70) rfl rfl Try.func71 (by kernel_rfl) rfl #[.int .i64 a0, .int .u64 a2, .int .u64 a3, .bool true] rfl qG ?_; (with_reducible refine (spec_l1Shift.calls kj16 a0 a2 a3 true t277 _ A22.out).mono ?_); rintro e w' ⟨rfl, ⟨nd, rfl⟩⟩; refine ⟨_, rfl, ?_⟩))
                            go_ret
                            exact ⟨by first | rfl | (simp; done) | (simp [*]; done), by repeat (first | exact Drawn0.refl _ | apply Drawn0.step)⟩
                          · rw [if_neg c21] at H
                            have c21b0 : (a1 == 11) = false := beq_eq_false_iff_ne.mpr c21
                            have c21b1 : (a1 != 11) = true := bne_iff_ne.mpr c21
                            by_cases c23 : a1 = 12
                            · rw [if_pos c23] at H
                              have c23b0 : (a1 == 12) = true := beq_iff_eq.mpr c23
                              have c23b1 : (a1 != 12) = false := bne_eq_false_iff_eq.mpr c23
                              clear c23
                              replace H := Option.bind_eq_some_iff.mp H
                              obtain ⟨t278, A240, H⟩ := H
                              replace H : (some t278) = some r := H
                              have A24 := Aside0.mk A240
                              clear A240
                              obtain rfl := Option.some.inj H
                              go_wp2_with (first | ((with_reducible refine gate_callee (f := 71) rfl ?_); refine goesL_ (some 76) rfl rfl Try.func71 (by kernel_rfl) rfl #[.int .i64 a0, .int .u64 a2, .int .u64 a3, .bool false] rfl qG ?_; (with_reducible refine (spec_l1Shift.calls kj16 a0 a2 a3 false t278 _ A24.out).mono ?_); rintro e w' ⟨rfl, ⟨nd, rfl⟩⟩; refine ⟨_, rfl, ?_⟩))
                              go_ret
                              exact ⟨by first | rfl | (simp; done) | (simp [*]; done), by repeat (first | exact Drawn0.refl _ | apply Drawn0.step)⟩
                            · rw [if_neg c23] at H
                              have c23b0 : (a1 == 12) = false := beq_eq_false_iff_ne.mpr c23
                              have c23b1 : (a1 != 12) = true := bne_iff_ne.mpr c23
                              by_cases c25 : a1 = 14
                              · rw [if_pos c25] at H
                                have c25b0 : (a1 == 14) = true := beq_iff_eq.mpr c25
                                have c25b1 : (a1 != 14) = false := bne_eq_false_iff_eq.mpr c25
                                clear c25
                                replace H := Option.bind_eq_some_iff.mp H
                                obtain ⟨t279, A260, H⟩ := H
                                replace H : (some t279) = some r := H
                                have A26 := Aside0.mk A260
                                clear A260
                                obtain rfl := Option.some.inj H
                                go_wp2_with (first | ((with_reducible refine gate_callee (f := 72) rfl ?_); refine goesL_ (some 82) rfl rfl Try.func72 (by kernel_rfl) rfl #[.bool (a2 == a3)] rfl qG ?_; (with_reducible refine (spec_l2Bool.calls (a2 == a3) t279 _ A26.out).mono ?_); rintro e w' ⟨rfl, ⟨nd, rfl⟩⟩; refine ⟨_, rfl, ?_⟩))
                                go_ret
                                exact ⟨by first | rfl | (simp; done) | (simp [*]; done), by repeat (first | exact Drawn0.refl _ | apply Drawn0.step)⟩
                              · rw [if_neg c25] at H
                                have c25b0 : (a1 == 14) = false := beq_eq_false_iff_ne.mpr c25
                                have c25b1 : (a1 != 14) = true := bne_iff_ne.mpr c25
                                by_cases c27 : a1 = 15
                                · rw [if_pos c27] at H
                                  have c27b0 : (a1 == 15) = true := beq_iff_eq.mpr c27
                                  have c27b1 : (a1 != 15) = false := bne_eq_false_iff_eq.mpr c27
                                  clear c27
                                  replace H := Option.bind_eq_some_iff.mp H
                                  obtain ⟨t280, A280, H⟩ := H
                                  replace H : (some t280) = some r := H
                                  have A28 := Aside0.mk A280
                                  clear A280
                                  obtain rfl := Option.some.inj H
                                  go_wp2_with (first | ((with_reducible refine gate_callee (f := 72) rfl ?_); refine goesL_ (some 88) rfl rfl Try.func72 (by kernel_rfl) rfl #[.bool (decide (a2 < a3))] rfl qG ?_; (with_reducible refine (spec_l2Bool.calls (decide (a2 < a3)) t280 _ A28.out).mono ?_); rintro e w' ⟨rfl, ⟨nd, rfl⟩⟩; refine ⟨_, rfl, ?_⟩))
                                  go_ret
                                  exact ⟨by first | rfl | (simp; done) | (simp [*]; done), by repeat (first | exact Drawn0.refl _ | apply Drawn0.step)⟩
                                · rw [if_neg c27] at H
                                  have c27b0 : (a1 == 15) = false := beq_eq_false_iff_ne.mpr c27
                                  have c27b1 : (a1 != 15) = true := bne_iff_ne.mpr c27
                                  by_cases c29 : a1 = 16
                                  · rw [if_pos c29] at H
                                    have c29b0 : (a1 == 16) = true := beq_iff_eq.mpr c29
                                    have c29b1 : (a1 != 16) = false := bne_eq_false_iff_eq.mpr c29
                                    clear c29
                                    replace H := Option.bind_eq_some_iff.mp H
                                    obtain ⟨t281, A300, H⟩ := H
                                    replace H : ((spec_l1Signed.f kj16 a0 a3).bind fun t282 => ((spec_l2Bool.f (decide (t281 < t282))).bind fun t283 => (some t283))) = some r := H
                                    have A30 := Aside0.mk A300
                                    clear A300
                                    replace H := Option.bind_eq_some_iff.mp H
                                    obtain ⟨t282, A310, H⟩ := H
                                    replace H : ((spec_l2Bool.f (decide (t281 < t282))).bind fun t283 => (some t283)) = some r := H
                                    have A31 := Aside0.mk A310
                                    clear A310
                                    replace H := Option.bind_eq_some_iff.mp H
                                    obtain ⟨t283, A320, H⟩ := H
                                    replace H : (some t283) = some r := H
                                    have A32 := Aside0.mk A320
                                    clear A320
                                    obtain rfl := Option.some.inj H
                                    go_wp2_with (first | ((with_reducible refine gate_callee (f := 73) rfl ?_); refine goesL_ (some 93) rfl rfl Try.func73 (by kernel_rfl) rfl #[.int .i64 a0, .int .u64 a2] rfl qG ?_; (with_reducible refine (spec_l1Signed.calls kj16 a0 a2 t281 _ A30.out).mono ?_); rintro e w' ⟨rfl, ⟨nd, rfl⟩⟩; refine ⟨_, rfl, ?_⟩) | ((with_reducible refine gate_callee (f := 73) rfl ?_); refine goesL_ (some 96) rfl rfl Try.func73 (by kernel_rfl) rfl #[.int .i64 a0, .int .u64 a3] rfl qG ?_; (with_reducible refine (spec_l1Signed.calls kj16 a0 a3 t282 _ A31.out).mono ?_); rintro e w' ⟨rfl, ⟨nd, rfl⟩⟩; refine ⟨_, rfl, ?_⟩) | ((with_reducible refine gate_callee (f := 72) rfl ?_); refine goesL_ (some 98) rfl rfl Try.func72 (by kernel_rfl) rfl #[.bool (decide (t281 < t282))] rfl qG ?_; (with_reducible refine (spec_l2Bool.calls (decide (t281 < t282)) t283 _ A32.out).mono ?_); rintro e w' ⟨rfl, ⟨nd, rfl⟩⟩; refine ⟨_, rfl, ?_⟩))
                                    go_ret
                                    exact ⟨by first | rfl | (simp; done) | (simp [*]; done), by repeat (first | exact Drawn0.refl _ | apply Drawn0.step)⟩
                                  · rw [if_neg c29] at H
                                    have c29b0 : (a1 == 16) = false := beq_eq_false_iff_ne.mpr c29
                                    have c29b1 : (a1 != 16) = true := bne_iff_ne.mpr c29
                                    obtain rfl := Option.some.inj H
                                    go_wp2
                                    go_ret
                                    exact ⟨by first | rfl | (simp; done) | (simp [*]; done), by repeat (first | exact Drawn0.refl _ | apply Drawn0.step)⟩

end Go.Proofs.Ytckdgmbmjfhodaa.X
