/- Each Go function as a Lean function, with the proof that the call comes to just its answer; or a law's row out of its pure statement. Conditions: the arguments are of their kinds. Written by this session's program wip/xp/xp.sh. -/
import Derived.Test.YtckdgmbmjfhodaaX0
import Derived.Test.YtckdgmbmjfhodaaX19
import Derived.Test.YtckdgmbmjfhodaaX27
namespace Go.Proofs.Ytckdgmbmjfhodaa.X
open Go.RowKit Go.Proofs.YtckdgmbmjfhodaaW.PrintWords Go.Proofs.YtckdgmbmjfhodaaW.PrintLast Go.Proofs.YtckdgmbmjfhodaaW.PrintMore
attribute [local go_sem] max2_int min2_int max_two min_two max_three min_three max_four min_four   -- for this text's walks alone
set_option linter.unusedVariables false
set_option linter.unusedSimpArgs false

/-! ### laws_FnExactDivWord: function 6 -/
def laws_FnExactDivWord.f (k : Nat) (a0 : Int) (a1 : Int) (a2 : Int) : Option (Bool) := (spec_DivWord.f k a0 a1 a2).bind fun bt704 => ((impl_DivWord.f a0 a1 a2).bind fun bt707 => (if bt707.1 = bt704.1 then (if bt707.2.1 = bt704.2.1 then (if (bt707.2.2 != bt704.2.2) = true then (some false) else (some true)) else (some false)) else (some false)))
theorem laws_FnExactDivWord.mono : ∀ a0 a1 a2 k, LeO (laws_FnExactDivWord.f k a0 a1 a2) (laws_FnExactDivWord.f (k + 1) a0 a1 a2) := by
  intro a0 a1 a2 k
  unfold laws_FnExactDivWord.f
  repeat' first
      | (with_reducible exact spec_DivWord.mono _ _ _ _)
      | (with_reducible exact LeO.refl _)
      | (with_reducible exact LeO.none _)
      | (with_reducible refine LeO.ite ?_ ?_)
      | (with_reducible refine LeO.bind ?_ (fun _ => ?_))
      | exact spec_DivWord.mono _ _ _ _
      | exact LeO.none _
      | refine LeO.ite ?_ ?_
      | refine LeO.bind ?_ (fun _ => ?_)
set_option maxHeartbeats 8000000 in
set_option maxRecDepth 100000 in
theorem laws_FnExactDivWord.calls (k : Nat) (a0 : Int) (a1 : Int) (a2 : Int) (r : Bool) (w : World) (h : laws_FnExactDivWord.f k a0 a1 a2 = some r) :
    Calls Try.prog 6 #[.int .i64 a0, .int .u64 a1, .int .u64 a2] w fun e w' => e = .returned (.bool r) ∧ Drawn0 w w' := by
  have H : ((spec_DivWord.f k a0 a1 a2).bind fun bt704 => ((impl_DivWord.f a0 a1 a2).bind fun bt707 => (if bt707.1 = bt704.1 then (if bt707.2.1 = bt704.2.1 then (if (bt707.2.2 != bt704.2.2) = true then (some false) else (some true)) else (some false)) else (some false)))) = some r := h
  clear h
  replace H := Option.bind_eq_some_iff.mp H
  obtain ⟨⟨t704, t705, t706⟩, A40, H⟩ := H
  replace H : ((impl_DivWord.f a0 a1 a2).bind fun bt707 => (if bt707.1 = t704 then (if bt707.2.1 = t705 then (if (bt707.2.2 != t706) = true then (some false) else (some true)) else (some false)) else (some false))) = some r := H
  have A4 := Aside0.mk A40
  clear A40
  replace H := Option.bind_eq_some_iff.mp H
  obtain ⟨⟨t707, t708, t709⟩, A50, H⟩ := H
  replace H : (if t707 = t704 then (if t708 = t705 then (if (t709 != t706) = true then (some false) else (some true)) else (some false)) else (some false)) = some r := H
  have A5 := Aside0.mk A50
  clear A50
  by_cases c6 : t707 = t704
  · rw [if_pos c6] at H
    have c6b0 : (t707 == t704) = true := beq_iff_eq.mpr c6
    have c6b1 : (t707 != t704) = false := bne_eq_false_iff_eq.mpr c6
    clear c6
    by_cases c7 : t708 = t705
    · rw [if_pos c7] at H
      have c7b0 : (t708 == t705) = true := beq_iff_eq.mpr c7
      have c7b1 : (t708 != t705) = false := bne_eq_false_iff_eq.mpr c7
      clear c7
      by_cases c8 : (t709 != t706) = true
      · rw [if_pos c8] at H
        have c8b0 : (t709 != t706) = true := c8
        (try (have c8b1 : decide (t709 = t706) = false := by simpa using c8))
        (try (have c8b2 : (t709 == t706) = false := by simpa using c8))
        (try (have c8b3 : ¬ (t709 = t706) := by simpa using c8))
        clear c8
        obtain rfl := Option.some.inj H
        go_enter Try.func6, Try.ntmps6
        go_wp2_with (first | ((with_reducible refine gate_callee (f := 24) rfl ?_); refine goesL_ (some 17) rfl rfl Try.func24 (by kernel_rfl) rfl #[.int .i64 a0, .int .u64 a1, .int .u64 a2] rfl qG ?_; (with_reducible refine (spec_DivWord.calls k a0 a1 a2 t704 t705 t706 _ A4.out).mono ?_); rintro e w' ⟨rfl, ⟨nd, rfl⟩⟩; refine ⟨_, rfl, ?_⟩) | ((with_reducible refine gate_callee (f := 25) rfl ?_); refine goesL_ (some 25) rfl rfl Try.func25 (by kernel_rfl) rfl #[.int .i64 a0, .int .u64 a1, .int .u64 a2] rfl qG ?_; (with_reducible refine (impl_DivWord.calls a0 a1 a2 t707 t708 t709 _ A5.out).mono ?_); rintro e w' ⟨rfl, ⟨nd, rfl⟩⟩; refine ⟨_, rfl, ?_⟩))
        go_ret
        exact ⟨by first | rfl | (simp; done) | (simp [*]; done), by repeat (first | exact Drawn0.refl _ | apply Drawn0.step)⟩
      · rw [if_neg c8] at H
        have c8b0 : (t709 != t706) = false := by simpa using c8
        (try (have c8b1 : decide (t709 = t706) = true := by simpa using c8))
        (try (have c8b2 : (t709 == t706) = true := by simpa using c8))
        clear c8
        obtain rfl := Option.some.inj H
        go_enter Try.func6, Try.ntmps6
        go_wp2_with (first | ((with_reducible refine gate_callee (f := 24) rfl ?_); refine goesL_ (some 17) rfl rfl Try.func24 (by kernel_rfl) rfl #[.int .i64 a0, .int .u64 a1, .int .u64 a2] rfl qG ?_; (with_reducible refine (spec_DivWord.calls k a0 a1 a2 t704 t705 t706 _ A4.out).mono ?_); rintro e w' ⟨rfl, ⟨nd, rfl⟩⟩; refine ⟨_, rfl, ?_⟩) | ((with_reducible refine gate_callee (f := 25) rfl ?_); refine goesL_ (some 25) rfl rfl Try.func25 (by kernel_rfl) rfl #[.int .i64 a0, .int .u64 a1, .int .u64 a2] rfl qG ?_; (with_reducible refine (impl_DivWord.calls a0 a1 a2 t707 t708 t709 _ A5.out).mono ?_); rintro e w' ⟨rfl, ⟨nd, rfl⟩⟩; refine ⟨_, rfl, ?_⟩))
        go_ret
        exact ⟨by first | rfl | (simp; done) | (simp [*]; done), by repeat (first | exact Drawn0.refl _ | apply Drawn0.step)⟩
    · rw [if_neg c7] at H
      have c7b0 : (t708 == t705) = false := beq_eq_false_iff_ne.mpr c7
      have c7b1 : (t708 != t705) = true := bne_iff_ne.mpr c7
      obtain rfl := Option.some.inj H
      go_enter Try.func6, Try.ntmps6
      go_wp2_with (first | ((with_reducible refine gate_callee (f := 24) rfl ?_); refine goesL_ (some 17) rfl rfl Try.func24 (by kernel_rfl) rfl #[.int .i64 a0, .int .u64 a1, .int .u64 a2] rfl qG ?_; (with_reducible refine (spec_DivWord.calls k a0 a1 a2 t704 t705 t706 _ A4.out).mono ?_); rintro e w' ⟨rfl, ⟨nd, rfl⟩⟩; refine ⟨_, rfl, ?_⟩) | ((with_reducible refine gate_callee (f := 25) rfl ?_); refine goesL_ (some 25) rfl rfl Try.func25 (by kernel_rfl) rfl #[.int .i64 a0, .int .u64 a1, .int .u64 a2] rfl qG ?_; (with_reducible refine (impl_DivWord.calls a0 a1 a2 t707 t708 t709 _ A5.out).mono ?_); rintro e w' ⟨rfl, ⟨nd, rfl⟩⟩; refine ⟨_, rfl, ?_⟩))
      go_ret
      exact ⟨by first | rfl | (simp; done) | (simp [*]; done), by repeat (first | exact Drawn0.refl _ | apply Drawn0.step)⟩
  · rw [if_neg c6] at H
    have c6b0 : (t707 == t704) = false := beq_eq_false_iff_ne.mpr c6
    have c6b1 : (t707 != t704) = true := bne_iff_ne.mpr c6
    obtain rfl := Option.some.inj H
    go_enter Try.func6, Try.ntmps6
    go_wp2_with (first | ((with_reducible refine gate_callee (f := 24) rfl ?_); refine goesL_ (some 17) rfl rfl Try.func24 (by kernel_rfl) rfl #[.int .i64 a0, .int .u64 a1, .int .u64 a2] rfl qG ?_; (with_reducible refine (spec_DivWord.calls k a0 a1 a2 t704 t705 t706 _ A4.out).mono ?_); rintro e w' ⟨rfl, ⟨nd, rfl⟩⟩; refine ⟨_, rfl, ?_⟩) | ((with_reducible refine gate_callee (f := 25) rfl ?_); refine goesL_ (some 25) rfl rfl Try.func25 (by kernel_rfl) rfl #[.int .i64 a0, .int .u64 a1, .int .u64 a2] rfl qG ?_; (with_reducible refine (impl_DivWord.calls a0 a1 a2 t707 t708 t709 _ A5.out).mono ?_); rintro e w' ⟨rfl, ⟨nd, rfl⟩⟩; refine ⟨_, rfl, ?_⟩))
    go_ret
    exact ⟨by first | rfl | (simp; done) | (simp [*]; done), by repeat (first | exact Drawn0.refl _ | apply Drawn0.step)⟩

/-- THE ONE PURE STATEMENT of laws_FnExactDivWord: yours. -/
def laws_FnExactDivWord.Pure : Prop := ∀ (a0 : Int) (a1 : Int) (a2 : Int), (Lit.int .i64 a0).wf = true → (Lit.int .u64 a1).wf = true → (Lit.int .u64 a2).wf = true → ∃ k, laws_FnExactDivWord.f k a0 a1 a2 = some true
theorem laws_FnExactDivWord.walk (P : laws_FnExactDivWord.Pure) (a0 : Int) (a1 : Int) (a2 : Int) (w : World) (w0 : (Lit.int .i64 a0).wf = true) (w1 : (Lit.int .u64 a1).wf = true) (w2 : (Lit.int .u64 a2).wf = true) :
    Calls Try.prog 6 #[.int .i64 a0, .int .u64 a1, .int .u64 a2] w fun e w' => e = .returned (.bool true) ∧ Below w.heap.size w w' := by
  obtain ⟨k, h⟩ := P a0 a1 a2 w0 w1 w2
  refine (laws_FnExactDivWord.calls k a0 a1 a2 true w h).mono ?_
  rintro e w' ⟨rfl, hd⟩
  exact ⟨rfl, hd.below⟩

end Go.Proofs.Ytckdgmbmjfhodaa.X
