/- Each Go function as a Lean function, with the proof that the call comes to just its answer; or a law's row out of its pure statement. Conditions: the arguments are of their kinds. Written by this session's program wip/xp/xp.sh. -/
import Derived.Test.YthageckjjbgonaaX0
import Derived.Test.YthageckjjbgonaaX1
import Derived.Test.YthageckjjbgonaaX4
import Derived.Test.YthageckjjbgonaaX10
import Derived.Test.YthageckjjbgonaaX17
import Derived.Test.YthageckjjbgonaaX19
import Derived.Test.YthageckjjbgonaaX21
import Derived.Test.YthageckjjbgonaaXO
namespace Go.Proofs.Ythageckjjbgonaa.X
open Go.RowKit Go.Proofs.YthageckjjbgonaaW.PrintWords Go.Proofs.YthageckjjbgonaaW.PrintLast Go.Proofs.YthageckjjbgonaaW.PrintMore
attribute [local go_sem] max2_int min2_int max_two min_two max_three min_three max_four min_four   -- for this text's walks alone
set_option linter.unusedVariables false
set_option linter.unusedSimpArgs false

/-! ### laws_FnExactJoinTerms: function 7 -/
mutual
def laws_FnExactJoinTerms.j0 : Nat → Int → Int → Int → List (S49) → List (S49) → List (S47) → Bool → List (S47) → List (S47) → List (S47) → Bool → Bool → Option (Bool)
  | 0, _, _, _, _, _, _, _, _, _, _, _, _ => none
  | k + 1, x0, x1, x2, x3, x4, x12, x13, x14, x15, x16, x17, x65 => if x65 = true then (some false) else ((laws_toNodeS.f k x3).bind fun t363 => ((laws_eqNodeS.f k x14 t363).bind fun t366 => (if t366 = true then ((laws_toNodeS.f k x4).bind fun t367 => ((laws_eqNodeS.f k x15 t367).bind fun t370 => (if t370 = true then ((laws_markNodeS.f k x14 1).bind fun bt371 => ((laws_markNodeS.f k x15 bt371.1).bind fun bt373 => (if bt373.1 < 0 then (laws_FnExactJoinTerms.j1 k x0 x1 x2 x3 x4 x12 x13 x16 true) else ((laws_eqNodeS.f k x16 x12).bind fun t375 => (if t375 = true then (laws_FnExactJoinTerms.j1 k x0 x1 x2 x3 x4 x12 x13 x16 (x17 != x13)) else (laws_FnExactJoinTerms.j1 k x0 x1 x2 x3 x4 x12 x13 x16 true)))))) else (some false)))) else (some false))))
def laws_FnExactJoinTerms.j1 : Nat → Int → Int → Int → List (S49) → List (S49) → List (S47) → Bool → List (S47) → Bool → Option (Bool)
  | 0, _, _, _, _, _, _, _, _, _ => none
  | k + 1, x0, x1, x2, x3, x4, x12, x13, x16, x94 => if x94 = true then (some false) else ((laws_markNodeS.f k x16 1).bind fun bt376 => ((laws_heldNodeS.f k bt376.2 1).bind fun t378 => (if t378 < 0 then (some false) else (if t378 = bt376.1 then ((laws_toNodeS.f k x3).bind fun t379 => ((laws_toNodeS.f k x4).bind fun t382 => ((impl_JoinTerms.f k x0 x1 x2 t379 t382).bind fun bt385 => ((laws_eqNodeS.f k bt385.1 x12).bind fun t389 => (if t389 = true then (laws_FnExactJoinTerms.j2 k bt376.2 bt376.1 (bt385.2 != x13)) else (laws_FnExactJoinTerms.j2 k bt376.2 bt376.1 true)))))) else (some false)))))
def laws_FnExactJoinTerms.j2 : Nat → List (S47) → Int → Bool → Option (Bool)
  | 0, _, _, _ => none
  | k + 1, x16, x19, x125 => if x125 = true then (some false) else ((laws_heldNodeS.f k x16 1).bind fun t390 => (if t390 < 0 then (some false) else (if t390 = x19 then (some true) else (some false))))
end
def laws_FnExactJoinTerms.f (k : Nat) (a0 : Int) (a1 : Int) (a2 : Int) (l3 : List (S49)) (l4 : List (S49)) : Option (Bool) := (laws_szNodeS.f l3 1048576).bind fun t340 => (if t340 < 0 then (some true) else ((laws_szNodeS.f l4 t340).bind fun t341 => (if t341 < 0 then (some true) else ((laws_toNodeS.f k l3).bind fun t342 => ((laws_toNodeS.f k l4).bind fun t345 => ((spec_JoinTerms.f k a0 a1 a2 t342 t345).bind fun bt348 => ((laws_toNodeS.f k l3).bind fun t352 => ((laws_toNodeS.f k l4).bind fun t355 => ((impl_JoinTerms.f k a0 a1 a2 t352 t355).bind fun bt358 => ((laws_eqNodeS.f k bt358.1 bt348.1).bind fun t362 => (if t362 = true then (laws_FnExactJoinTerms.j0 k a0 a1 a2 l3 l4 bt348.1 bt348.2 t352 t355 bt358.1 bt358.2 (bt358.2 != bt348.2)) else (laws_FnExactJoinTerms.j0 k a0 a1 a2 l3 l4 bt348.1 bt348.2 t352 t355 bt358.1 bt358.2 true))))))))))))
theorem laws_FnExactJoinTerms.mono_l : ∀ k, (∀ y0 y1 y2 y3 y4 y5 y6 y7 y8 y9 y10 y11, LeO (laws_FnExactJoinTerms.j0 k y0 y1 y2 y3 y4 y5 y6 y7 y8 y9 y10 y11) (laws_FnExactJoinTerms.j0 (k + 1) y0 y1 y2 y3 y4 y5 y6 y7 y8 y9 y10 y11)) ∧ (∀ y0 y1 y2 y3 y4 y5 y6 y7 y8, LeO (laws_FnExactJoinTerms.j1 k y0 y1 y2 y3 y4 y5 y6 y7 y8) (laws_FnExactJoinTerms.j1 (k + 1) y0 y1 y2 y3 y4 y5 y6 y7 y8)) ∧ (∀ y0 y1 y2, LeO (laws_FnExactJoinTerms.j2 k y0 y1 y2) (laws_FnExactJoinTerms.j2 (k + 1) y0 y1 y2))
  | 0 => ⟨fun _ _ _ _ _ _ _ _ _ _ _ _ r h => by simp [laws_FnExactJoinTerms.j0] at h, fun _ _ _ _ _ _ _ _ _ r h => by simp [laws_FnExactJoinTerms.j1] at h, fun _ _ _ r h => by simp [laws_FnExactJoinTerms.j2] at h⟩
  | k + 1 => by
    obtain ⟨ih0, ih1, ih2⟩ := laws_FnExactJoinTerms.mono_l k
    refine ⟨?_, ?_, ?_⟩
    · intro y0 y1 y2 y3 y4 y5 y6 y7 y8 y9 y10 y11
      unfold laws_FnExactJoinTerms.j0
      repeat' first
      | (with_reducible exact ih0 _ _ _ _ _ _ _ _ _ _ _ _)
      | (with_reducible exact ih1 _ _ _ _ _ _ _ _ _)
      | (with_reducible exact ih2 _ _ _)
      | (with_reducible exact impl_JoinTerms.mono _ _ _ _ _ _)
      | (with_reducible exact laws_eqNodeS.mono _ _ _)
      | (with_reducible exact laws_heldNodeS.mono _ _ _)
      | (with_reducible exact laws_markNodeS.mono _ _ _)
      | (with_reducible exact laws_toNodeS.mono _ _)
      | (with_reducible exact spec_JoinTerms.mono _ _ _ _ _ _)
      | (with_reducible exact LeO.refl _)
      | (with_reducible exact LeO.none _)
      | (with_reducible refine LeO.ite ?_ ?_)
      | (with_reducible refine LeO.bind ?_ (fun _ => ?_))
      | exact ih0 _ _ _ _ _ _ _ _ _ _ _ _
      | exact ih1 _ _ _ _ _ _ _ _ _
      | exact ih2 _ _ _
      | exact impl_JoinTerms.mono _ _ _ _ _ _
      | exact laws_eqNodeS.mono _ _ _
      | exact laws_heldNodeS.mono _ _ _
      | exact laws_markNodeS.mono _ _ _
      | exact laws_toNodeS.mono _ _
      | exact spec_JoinTerms.mono _ _ _ _ _ _
      | exact LeO.none _
      | refine LeO.ite ?_ ?_
      | refine LeO.bind ?_ (fun _ => ?_)
    · intro y0 y1 y2 y3 y4 y5 y6 y7 y8
      unfold laws_FnExactJoinTerms.j1
      repeat' first
      | (with_reducible exact ih0 _ _ _ _ _ _ _ _ _ _ _ _)
      | (with_reducible exact ih1 _ _ _ _ _ _ _ _ _)
      | (with_reducible exact ih2 _ _ _)
      | (with_reducible exact impl_JoinTerms.mono _ _ _ _ _ _)
      | (with_reducible exact laws_eqNodeS.mono _ _ _)
      | (with_reducible exact laws_heldNodeS.mono _ _ _)
      | (with_reducible exact laws_markNodeS.mono _ _ _)
      | (with_reducible exact laws_toNodeS.mono _ _)
      | (with_reducible exact spec_JoinTerms.mono _ _ _ _ _ _)
      | (with_reducible exact LeO.refl _)
      | (with_reducible exact LeO.none _)
      | (with_reducible refine LeO.ite ?_ ?_)
      | (with_reducible refine LeO.bind ?_ (fun _ => ?_))
      | exact ih0 _ _ _ _ _ _ _ _ _ _ _ _
      | exact ih1 _ _ _ _ _ _ _ _ _
      | exact ih2 _ _ _
      | exact impl_JoinTerms.mono _ _ _ _ _ _
      | exact laws_eqNodeS.mono _ _ _
      | exact laws_heldNodeS.mono _ _ _
      | exact laws_markNodeS.mono _ _ _
      | exact laws_toNodeS.mono _ _
      | exact spec_JoinTerms.mono _ _ _ _ _ _
      | exact LeO.none _
      | refine LeO.ite ?_ ?_
      | refine LeO.bind ?_ (fun _ => ?_)
    · intro y0 y1 y2
      unfold laws_FnExactJoinTerms.j2
      repeat' first
      | (with_reducible exact ih0 _ _ _ _ _ _ _ _ _ _ _ _)
      | (with_reducible exact ih1 _ _ _ _ _ _ _ _ _)
      | (with_reducible exact ih2 _ _ _)
      | (with_reducible exact impl_JoinTerms.mono _ _ _ _ _ _)
      | (with_reducible exact laws_eqNodeS.mono _ _ _)
      | (with_reducible exact laws_heldNodeS.mono _ _ _)
      | (with_reducible exact laws_markNodeS.mono _ _ _)
      | (with_reducible exact laws_toNodeS.mono _ _)
      | (with_reducible exact spec_JoinTerms.mono _ _ _ _ _ _)
      | (with_reducible exact LeO.refl _)
      | (with_reducible exact LeO.none _)
      | (with_reducible refine LeO.ite ?_ ?_)
      | (with_reducible refine LeO.bind ?_ (fun _ => ?_))
      | exact ih0 _ _ _ _ _ _ _ _ _ _ _ _
      | exact ih1 _ _ _ _ _ _ _ _ _
      | exact ih2 _ _ _
      | exact impl_JoinTerms.mono _ _ _ _ _ _
      | exact laws_eqNodeS.mono _ _ _
      | exact laws_heldNodeS.mono _ _ _
      | exact laws_markNodeS.mono _ _ _
      | exact laws_toNodeS.mono _ _
      | exact spec_JoinTerms.mono _ _ _ _ _ _
      | exact LeO.none _
      | refine LeO.ite ?_ ?_
      | refine LeO.bind ?_ (fun _ => ?_)
theorem laws_FnExactJoinTerms.mono : ∀ a0 a1 a2 a3 a4 k, LeO (laws_FnExactJoinTerms.f k a0 a1 a2 a3 a4) (laws_FnExactJoinTerms.f (k + 1) a0 a1 a2 a3 a4) := by
  intro a0 a1 a2 a3 a4 k
  obtain ⟨ih0, ih1, ih2⟩ := laws_FnExactJoinTerms.mono_l k
  unfold laws_FnExactJoinTerms.f
  repeat' first
      | (with_reducible exact ih0 _ _ _ _ _ _ _ _ _ _ _ _)
      | (with_reducible exact ih1 _ _ _ _ _ _ _ _ _)
      | (with_reducible exact ih2 _ _ _)
      | (with_reducible exact impl_JoinTerms.mono _ _ _ _ _ _)
      | (with_reducible exact laws_eqNodeS.mono _ _ _)
      | (with_reducible exact laws_heldNodeS.mono _ _ _)
      | (with_reducible exact laws_markNodeS.mono _ _ _)
      | (with_reducible exact laws_toNodeS.mono _ _)
      | (with_reducible exact spec_JoinTerms.mono _ _ _ _ _ _)
      | (with_reducible exact LeO.refl _)
      | (with_reducible exact LeO.none _)
      | (with_reducible refine LeO.ite ?_ ?_)
      | (with_reducible refine LeO.bind ?_ (fun _ => ?_))
      | exact ih0 _ _ _ _ _ _ _ _ _ _ _ _
      | exact ih1 _ _ _ _ _ _ _ _ _
      | exact ih2 _ _ _
      | exact impl_JoinTerms.mono _ _ _ _ _ _
      | exact laws_eqNodeS.mono _ _ _
      | exact laws_heldNodeS.mono _ _ _
      | exact laws_markNodeS.mono _ _ _
      | exact laws_toNodeS.mono _ _
      | exact spec_JoinTerms.mono _ _ _ _ _ _
      | exact LeO.none _
      | refine LeO.ite ?_ ?_
      | refine LeO.bind ?_ (fun _ => ?_)
set_option maxHeartbeats 8000000 in
set_option maxRecDepth 100000 in
theorem laws_FnExactJoinTerms.calls (k : Nat) (a0 : Int) (a1 : Int) (a2 : Int) (A3 : Option Addr) (c3 : Nat) (l3 : List (S49)) (A4 : Option Addr) (c4 : Nat) (l4 : List (S49)) (r : Bool) (w : World) (hr3 : Kd.C k49 w A3 l3.length l3) (hc3 : l3.length ≤ c3) (hr4 : Kd.C k49 w A4 l4.length l4) (hc4 : l4.length ≤ c4) (h : laws_FnExactJoinTerms.f k a0 a1 a2 l3 l4 = some r) :
    Calls Try.prog 7 #[.int .i64 a0, .int .i64 a1, .int .i64 a2, .slice A3 l3.length c3, .slice A4 l4.length c4] w fun e w' => e = .returned (.bool r) ∧ Below w.heap.size w w' := by
  have HR3 := Aside0.mk hr3
  have HC3 := Aside0.mk hc3
  clear hr3 hc3
  have HR4 := Aside0.mk hr4
  have HC4 := Aside0.mk hc4
  clear hr4 hc4
  have HB := Aside0.mk (Below.refl w.heap.size w)
  have H : ((laws_szNodeS.f l3 1048576).bind fun t340 => (if t340 < 0 then (some true) else ((laws_szNodeS.f l4 t340).bind fun t341 => (if t341 < 0 then (some true) else ((laws_toNodeS.f k l3).bind fun t342 => ((laws_toNodeS.f k l4).bind fun t345 => ((spec_JoinTerms.f k a0 a1 a2 t342 t345).bind fun bt348 => ((laws_toNodeS.f k l3).bind fun t352 => ((laws_toNodeS.f k l4).bind fun t355 => ((impl_JoinTerms.f k a0 a1 a2 t352 t355).bind fun bt358 => ((laws_eqNodeS.f k bt358.1 bt348.1).bind fun t362 => (if t362 = true then (laws_FnExactJoinTerms.j0 k a0 a1 a2 l3 l4 bt348.1 bt348.2 t352 t355 bt358.1 bt358.2 (bt358.2 != bt348.2)) else (laws_FnExactJoinTerms.j0 k a0 a1 a2 l3 l4 bt348.1 bt348.2 t352 t355 bt358.1 bt358.2 true))))))))))))) = some r := h
  clear h
  replace H := Option.bind_eq_some_iff.mp H
  obtain ⟨t340, A60, H⟩ := H
  replace H : (if t340 < 0 then (some true) else ((laws_szNodeS.f l4 t340).bind fun t341 => (if t341 < 0 then (some true) else ((laws_toNodeS.f k l3).bind fun t342 => ((laws_toNodeS.f k l4).bind fun t345 => ((spec_JoinTerms.f k a0 a1 a2 t342 t345).bind fun bt348 => ((laws_toNodeS.f k l3).bind fun t352 => ((laws_toNodeS.f k l4).bind fun t355 => ((impl_JoinTerms.f k a0 a1 a2 t352 t355).bind fun bt358 => ((laws_eqNodeS.f k bt358.1 bt348.1).bind fun t362 => (if t362 = true then (laws_FnExactJoinTerms.j0 k a0 a1 a2 l3 l4 bt348.1 bt348.2 t352 t355 bt358.1 bt358.2 (bt358.2 != bt348.2)) else (laws_FnExactJoinTerms.j0 k a0 a1 a2 l3 l4 bt348.1 bt348.2 t352 t355 bt358.1 bt358.2 true)))))))))))) = some r := H
  have A6 := Aside0.mk A60
  clear A60
  by_cases c7 : t340 < 0
  · rw [if_pos c7] at H
    have c7b0 : decide (t340 < 0) = true := decide_eq_true c7
    clear c7
    obtain rfl := Option.some.inj H
    go_enter Try.func7, Try.ntmps7
    go_wp2_with (first | ((with_reducible refine gate_callee (f := 10) rfl ?_); refine goesL_ (some 25) rfl rfl Try.func10 (by kernel_rfl) rfl #[.slice A3 l3.length c3, .int .i64 1048576] rfl qG ?_; (with_reducible refine (laws_szNodeS.calls _ _ l3 1048576 t340 _ ?side1 ?side2 A6.out).mono ?_); (case side1 => exact qC HR3.out); (case side2 => exact HC3.out); rintro e w' ⟨rfl, ⟨nd, rfl⟩⟩; refine ⟨_, rfl, ?_⟩))
    go_ret
    exact ⟨qE, qB⟩
  · rw [if_neg c7] at H
    have c7b0 : decide (t340 < 0) = false := decide_eq_false c7
    clear c7
    replace H := Option.bind_eq_some_iff.mp H
    obtain ⟨t341, A80, H⟩ := H
    replace H : (if t341 < 0 then (some true) else ((laws_toNodeS.f k l3).bind fun t342 => ((laws_toNodeS.f k l4).bind fun t345 => ((spec_JoinTerms.f k a0 a1 a2 t342 t345).bind fun bt348 => ((laws_toNodeS.f k l3).bind fun t352 => ((laws_toNodeS.f k l4).bind fun t355 => ((impl_JoinTerms.f k a0 a1 a2 t352 t355).bind fun bt358 => ((laws_eqNodeS.f k bt358.1 bt348.1).bind fun t362 => (if t362 = true then (laws_FnExactJoinTerms.j0 k a0 a1 a2 l3 l4 bt348.1 bt348.2 t352 t355 bt358.1 bt358.2 (bt358.2 != bt348.2)) else (laws_FnExactJoinTerms.j0 k a0 a1 a2 l3 l4 bt348.1 bt348.2 t352 t355 bt358.1 bt358.2 true)))))))))) = some r := H
    have A8 := Aside0.mk A80
    clear A80
    by_cases c9 : t341 < 0
    · rw [if_pos c9] at H
      have c9b0 : decide (t341 < 0) = true := decide_eq_true c9
      clear c9
      obtain rfl := Option.some.inj H
      go_enter Try.func7, Try.ntmps7
      go_wp2_with (first | ((with_reducible refine gate_callee (f := 10) rfl ?_); refine goesL_ (some 25) rfl rfl Try.func10 (by kernel_rfl) rfl #[.slice A3 l3.length c3, .int .i64 1048576] rfl qG ?_; (with_reducible refine (laws_szNodeS.calls _ _ l3 1048576 t340 _ ?side1 ?side2 A6.out).mono ?_); (case side1 => exact qC HR3.out); (case side2 => exact HC3.out); rintro e w' ⟨rfl, ⟨nd, rfl⟩⟩; refine ⟨_, rfl, ?_⟩) | ((with_reducible refine gate_callee (f := 10) rfl ?_); refine goesL_ (some 30) rfl rfl Try.func10 (by kernel_rfl) rfl #[.slice A4 l4.length c4, .int .i64 t340] rfl qG ?_; (with_reducible refine (laws_szNodeS.calls _ _ l4 t340 t341 _ ?side1 ?side2 A8.out).mono ?_); (case side1 => exact qC HR4.out); (case side2 => exact HC4.out); rintro e w' ⟨rfl, ⟨nd, rfl⟩⟩; refine ⟨_, rfl, ?_⟩))
      go_ret
      exact ⟨qE, qB⟩
    · rw [if_neg c9] at H
      have c9b0 : decide (t341 < 0) = false := decide_eq_false c9
      clear c9
      replace H := Option.bind_eq_some_iff.mp H
      obtain ⟨t342, A100, H⟩ := H
      replace H : ((laws_toNodeS.f k l4).bind fun t345 => ((spec_JoinTerms.f k a0 a1 a2 t342 t345).bind fun bt348 => ((laws_toNodeS.f k l3).bind fun t352 => ((laws_toNodeS.f k l4).bind fun t355 => ((impl_JoinTerms.f k a0 a1 a2 t352 t355).bind fun bt358 => ((laws_eqNodeS.f k bt358.1 bt348.1).bind fun t362 => (if t362 = true then (laws_FnExactJoinTerms.j0 k a0 a1 a2 l3 l4 bt348.1 bt348.2 t352 t355 bt358.1 bt358.2 (bt358.2 != bt348.2)) else (laws_FnExactJoinTerms.j0 k a0 a1 a2 l3 l4 bt348.1 bt348.2 t352 t355 bt358.1 bt358.2 true)))))))) = some r := H
      have A10 := Aside0.mk A100
      clear A100
      replace H := Option.bind_eq_some_iff.mp H
      obtain ⟨t345, A110, H⟩ := H
      replace H : ((spec_JoinTerms.f k a0 a1 a2 t342 t345).bind fun bt348 => ((laws_toNodeS.f k l3).bind fun t352 => ((laws_toNodeS.f k l4).bind fun t355 => ((impl_JoinTerms.f k a0 a1 a2 t352 t355).bind fun bt358 => ((laws_eqNodeS.f k bt358.1 bt348.1).bind fun t362 => (if t362 = true then (laws_FnExactJoinTerms.j0 k a0 a1 a2 l3 l4 bt348.1 bt348.2 t352 t355 bt358.1 bt358.2 (bt358.2 != bt348.2)) else (laws_FnExactJoinTerms.j0 k a0 a1 a2 l3 l4 bt348.1 bt348.2 t352 t355 bt358.1 bt358.2 true))))))) = some r := H
      have A11 := Aside0.mk A110
      clear A110
      replace H := Option.bind_eq_some_iff.mp H
      obtain ⟨⟨t348, t349⟩, A120, H⟩ := H
      replace H : ((laws_toNodeS.f k l3).bind fun t352 => ((laws_toNodeS.f k l4).bind fun t355 => ((impl_JoinTerms.f k a0 a1 a2 t352 t355).bind fun bt358 => ((laws_eqNodeS.f k bt358.1 t348).bind fun t362 => (if t362 = true then (laws_FnExactJoinTerms.j0 k a0 a1 a2 l3 l4 t348 t349 t352 t355 bt358.1 bt358.2 (bt358.2 != t349)) else (laws_FnExactJoinTerms.j0 k a0 a1 a2 l3 l4 t348 t349 t352 t355 bt358.1 bt358.2 true)))))) = some r := H
      have A12 := Aside0.mk A120
      clear A120
      replace H := Option.bind_eq_some_iff.mp H
      obtain ⟨t352, A130, H⟩ := H
      replace H : ((laws_toNodeS.f k l4).bind fun t355 => ((impl_JoinTerms.f k a0 a1 a2 t352 t355).bind fun bt358 => ((laws_eqNodeS.f k bt358.1 t348).bind fun t362 => (if t362 = true then (laws_FnExactJoinTerms.j0 k a0 a1 a2 l3 l4 t348 t349 t352 t355 bt358.1 bt358.2 (bt358.2 != t349)) else (laws_FnExactJoinTerms.j0 k a0 a1 a2 l3 l4 t348 t349 t352 t355 bt358.1 bt358.2 true))))) = some r := H
      have A13 := Aside0.mk A130
      clear A130
      replace H := Option.bind_eq_some_iff.mp H
      obtain ⟨t355, A140, H⟩ := H
      replace H : ((impl_JoinTerms.f k a0 a1 a2 t352 t355).bind fun bt358 => ((laws_eqNodeS.f k bt358.1 t348).bind fun t362 => (if t362 = true then (laws_FnExactJoinTerms.j0 k a0 a1 a2 l3 l4 t348 t349 t352 t355 bt358.1 bt358.2 (bt358.2 != t349)) else (laws_FnExactJoinTerms.j0 k a0 a1 a2 l3 l4 t348 t349 t352 t355 bt358.1 bt358.2 true)))) = some r := H
      have A14 := Aside0.mk A140
      clear A140
      replace H := Option.bind_eq_some_iff.mp H
      obtain ⟨⟨t358, t361⟩, A150, H⟩ := H
      replace H : ((laws_eqNodeS.f k t358 t348).bind fun t362 => (if t362 = true then (laws_FnExactJoinTerms.j0 k a0 a1 a2 l3 l4 t348 t349 t352 t355 t358 t361 (t361 != t349)) else (laws_FnExactJoinTerms.j0 k a0 a1 a2 l3 l4 t348 t349 t352 t355 t358 t361 true))) = some r := H
      have A15 := Aside0.mk A150
      clear A150
      have HC16 := Aside0.mk H
      clear H
      go_enter Try.func7, Try.ntmps7
      go_upto_region 12 with (first | ((with_reducible refine gate_callee (f := 10) rfl ?_); refine goesL_ (some 25) rfl rfl Try.func10 (by kernel_rfl) rfl #[.slice A3 l3.length c3, .int .i64 1048576] rfl qG ?_; (with_reducible refine (laws_szNodeS.calls _ _ l3 1048576 t340 _ ?side1 ?side2 A6.out).mono ?_); (case side1 => exact qC HR3.out); (case side2 => exact HC3.out); rintro e w' ⟨rfl, ⟨nd, rfl⟩⟩; refine ⟨_, rfl, ?_⟩) | ((with_reducible refine gate_callee (f := 10) rfl ?_); refine goesL_ (some 30) rfl rfl Try.func10 (by kernel_rfl) rfl #[.slice A4 l4.length c4, .int .i64 t340] rfl qG ?_; (with_reducible refine (laws_szNodeS.calls _ _ l4 t340 t341 _ ?side1 ?side2 A8.out).mono ?_); (case side1 => exact qC HR4.out); (case side2 => exact HC4.out); rintro e w' ⟨rfl, ⟨nd, rfl⟩⟩; refine ⟨_, rfl, ?_⟩) | ((with_reducible refine gate_callee (f := 12) rfl ?_); refine goesL_ (some 38) rfl rfl Try.func12 (by kernel_rfl) rfl #[.slice A3 l3.length c3] rfl qG ?_; (with_reducible refine (laws_toNodeS.calls k _ _ l3 t342 _ ?side1 ?side2 A10.out).mono ?_); (case side1 => exact qC HR3.out); (case side2 => exact HC3.out); rintro e w17 ⟨v343, rfl, ho0, hb⟩; refine ⟨_, rfl, ?_⟩; have n0_ := Aside0.mk (Kd.R_lower ho0 (below_size (qB))); have n1_ := Aside0.mk (below_step (qB) hb); clear HB; have HO344 := n0_; have HB := n1_; clear n0_ n1_; (try clear hb); (try clear hb2); (try clear hk); (try clear hi); (try clear ho0)) | ((with_reducible refine gate_callee (f := 12) rfl ?_); refine goesL_ (some 40) rfl rfl Try.func12 (by kernel_rfl) rfl #[.slice A4 l4.length c4] rfl qG ?_; (with_reducible refine (laws_toNodeS.calls k _ _ l4 t345 _ ?side1 ?side2 A11.out).mono ?_); (case side1 => exact qC (Kd.C_below HR4.out HB.out)); (case side2 => exact HC4.out); rintro e w18 ⟨v346, rfl, ho0, hb⟩; refine ⟨_, rfl, ?_⟩; have n0_ := Aside0.mk (Kd.R_elder' (qR HO344.out) (Kd.R_base ho0) hb); have n1_ := Aside0.mk (Kd.R_lower (Kd.R_new' ho0 (Kd.R_lt (qR HO344.out))) (below_size (qB))); have n2_ := Aside0.mk (below_step (qB) hb); clear HO344; clear HB; have HO344 := n0_; have HO347 := n1_; have HB := n2_; clear n0_ n1_ n2_; (try clear hb); (try clear hb2); (try clear hk); (try clear hi); (try clear ho0); obtain ⟨Ao19, co19, eo19⟩ := Kd.R_slice HO344.out; subst eo19; obtain ⟨Ao20, co20, eo20⟩ := Kd.R_slice HO347.out; subst eo20) | ((with_reducible refine gate_callee (f := 23) rfl ?_); refine goesL_ (some 41) rfl rfl Try.func23 (by kernel_rfl) rfl #[.int .i64 a0, .int .i64 a1, .int .i64 a2, .slice Ao19 t342.length co19, .slice Ao20 t345.length co20] rfl qG ?_; (with_reducible refine (spec_JoinTerms.calls k a0 a1 a2 _ _ t342 _ _ t345 t348 t349 _ ?side1 ?side2 ?side3 ?side4 A12.out).mono ?_); (case side1 => repeat (first | exact (Kd.R_reads' HO344.out).2.2 | (with_reducible refine Kd.C_alloc ?_ _) | (with_reducible refine Kd.C_drewN ?_ _) | (with_reducible refine Kd.C_drew ?_))); (case side2 => exact (Kd.R_reads' HO344.out).2.1); (case side3 => repeat (first | exact (Kd.R_reads' HO347.out).2.2 | (with_reducible refine Kd.C_alloc ?_ _) | (with_reducible refine Kd.C_drewN ?_ _) | (with_reducible refine Kd.C_drew ?_))); (case side4 => exact (Kd.R_reads' HO347.out).2.1); rintro e w21 ⟨v350, rfl, ho0, hb⟩; refine ⟨_, rfl, ?_⟩; have n0_ := Aside0.mk (Kd.R_elder' (qR HO344.out) (Kd.R_base ho0) hb); have n1_ := Aside0.mk (Kd.R_elder' (qR HO347.out) (Kd.R_base ho0) hb); have n2_ := Aside0.mk (Kd.R_lower (Kd.R_new' (Kd.R_new' ho0 (Kd.R_lt (qR HO344.out))) (Kd.R_lt (qR HO347.out))) (below_size (qB))); have n3_ := Aside0.mk (below_step (qB) hb); clear HO344; clear HO347; clear HB; have HO344 := n0_; have HO347 := n1_; have HO351 := n2_; have HB := n3_; clear n0_ n1_ n2_ n3_; (try clear hb); (try clear hb2); (try clear hk); (try clear hi); (try clear ho0)) | ((with_reducible refine gate_callee (f := 12) rfl ?_); refine goesL_ (some 45) rfl rfl Try.func12 (by kernel_rfl) rfl #[.slice A3 l3.length c3] rfl qG ?_; (with_reducible refine (laws_toNodeS.calls k _ _ l3 t352 _ ?side1 ?side2 A13.out).mono ?_); (case side1 => exact qC (Kd.C_below HR3.out HB.out)); (case side2 => exact HC3.out); rintro e w22 ⟨v353, rfl, ho0, hb⟩; refine ⟨_, rfl, ?_⟩; have n0_ := Aside0.mk (Kd.R_elder' (qR HO344.out) (Kd.R_base ho0) hb); have n1_ := Aside0.mk (Kd.R_elder' (qR HO347.out) (Kd.R_base ho0) hb); have n2_ := Aside0.mk (Kd.R_elder' (qR HO351.out) (Kd.R_base ho0) hb); have n3_ := Aside0.mk (Kd.R_lower (Kd.R_new' (Kd.R_new' (Kd.R_new' ho0 (Kd.R_lt (qR HO344.out))) (Kd.R_lt (qR HO347.out))) (Kd.R_lt (qR HO351.out))) (below_size (qB))); have n4_ := Aside0.mk (below_step (qB) hb); clear HO344; clear HO347; clear HO351; clear HB; have HO344 := n0_; have HO347 := n1_; have HO351 := n2_; have HO354 := n3_; have HB := n4_; clear n0_ n1_ n2_ n3_ n4_; (try clear hb); (try clear hb2); (try clear hk); (try clear hi); (try clear ho0)) | ((with_reducible refine gate_callee (f := 12) rfl ?_); refine goesL_ (some 47) rfl rfl Try.func12 (by kernel_rfl) rfl #[.slice A4 l4.length c4] rfl qG ?_; (with_reducible refine (laws_toNodeS.calls k _ _ l4 t355 _ ?side1 ?side2 A14.out).mono ?_); (case side1 => exact qC (Kd.C_below HR4.out HB.out)); (case side2 => exact HC4.out); rintro e w23 ⟨v356, rfl, ho0, hb⟩; refine ⟨_, rfl, ?_⟩; have n0_ := Aside0.mk (Kd.R_elder' (qR HO344.out) (Kd.R_base ho0) hb); have n1_ := Aside0.mk (Kd.R_elder' (qR HO347.out) (Kd.R_base ho0) hb); have n2_ := Aside0.mk (Kd.R_elder' (qR HO351.out) (Kd.R_base ho0) hb); have n3_ := Aside0.mk (Kd.R_elder' (qR HO354.out) (Kd.R_base ho0) hb); have n4_ := Aside0.mk (Kd.R_lower (Kd.R_new' (Kd.R_new' (Kd.R_new' (Kd.R_new' ho0 (Kd.R_lt (qR HO344.out))) (Kd.R_lt (qR HO347.out))) (Kd.R_lt (qR HO351.out))) (Kd.R_lt (qR HO354.out))) (below_size (qB))); have n5_ := Aside0.mk (below_step (qB) hb); clear HO344; clear HO347; clear HO351; clear HO354; clear HB; have HO344 := n0_; have HO347 := n1_; have HO351 := n2_; have HO354 := n3_; have HO357 := n4_; have HB := n5_; clear n0_ n1_ n2_ n3_ n4_ n5_; (try clear hb); (try clear hb2); (try clear hk); (try clear hi); (try clear ho0); obtain ⟨Ao24, co24, eo24⟩ := Kd.R_slice HO354.out; subst eo24; obtain ⟨Ao25, co25, eo25⟩ := Kd.R_slice HO357.out; subst eo25) | ((with_reducible refine gate_callee (f := 24) rfl ?_); refine goesL_ (some 54) rfl rfl Try.func24 (by kernel_rfl) rfl #[.int .i64 a0, .int .i64 a1, .int .i64 a2, .slice Ao24 t352.length co24, .slice Ao25 t355.length co25] rfl qG ?_; (with_reducible refine (impl_JoinTerms.calls k a0 a1 a2 (fun k_ => some k_ = (.slice Ao24 t352.length co24 : Value).ownBlock) _ _ t352 (fun k_ => some k_ = (.slice Ao25 t355.length co25 : Value).ownBlock) _ _ t355 t358 t361 _ ?side1 ?side2 A15.out).mono ?_); (case side1 => exact Kd.R_V (Kd.R_tight rfl (HO354.out))); (case side2 => exact Kd.R_V (Kd.R_tight rfl (HO357.out))); rintro e w26 ⟨v359, rfl, ho0, hb⟩; refine ⟨_, rfl, ?_⟩; have n0_ := Aside0.mk (Kd.R_elder' (qR HO344.out) (Kd.R_base ho0) hb); have n1_ := Aside0.mk (Kd.R_elder' (qR HO347.out) (Kd.R_base ho0) hb); have n2_ := Aside0.mk (Kd.R_elder' (qR HO351.out) (Kd.R_base ho0) hb); have n3_ := Aside0.mk (Kd.R_elder' (qR HO354.out) (Kd.R_base ho0) hb); have n4_ := Aside0.mk (Kd.R_elder' (qR HO357.out) (Kd.R_base ho0) hb); have n5_ := Aside0.mk (Kd.R_lower (Kd.R_new' (Kd.R_new' (Kd.R_new' (Kd.R_new' (Kd.R_new' (Kd.R_mono (ok' := fun k_ => True) ho0 (fun _ hk_ => trivial)) (Kd.R_lt (qR HO344.out))) (Kd.R_lt (qR HO347.out))) (Kd.R_lt (qR HO351.out))) (Kd.R_lt (qR HO354.out))) (Kd.R_lt (qR HO357.out))) (below_size (qB))); have n6_ := Aside0.mk (below_step (qB) hb); clear HO344; clear HO347; clear HO351; clear HO354; clear HO357; clear HB; have HO344 := n0_; have HO347 := n1_; have HO351 := n2_; have HO354 := n3_; have HO357 := n4_; have HO360 := n5_; have HB := n6_; clear n0_ n1_ n2_ n3_ n4_ n5_ n6_; (try clear hb); (try clear hb2); (try clear hk); (try clear hi); (try clear ho0)))
      (try simp only [Act.put, List.setIfInBounds_toArray, List.set_cons_zero, List.set_cons_succ])
      go_cut [65] (fun v65 wc => ∃ (kq : Nat) (x65_15 : Bool), v65 = .bool x65_15 ∧ Aside0 (laws_FnExactJoinTerms.j0 kq a0 a1 a2 l3 l4 t348 t349 t352 t355 t358 t361 x65_15 = some r) ∧ Aside0 (kq ≤ k) ∧ Aside0 (Kd.R k47 47 wc w.heap.size (fun k_ => some k_ ≠ ((.slice Ao24 t352.length co24) : Value).ownBlock ∧ some k_ ≠ ((.slice Ao25 t355.length co25) : Value).ownBlock ∧ some k_ ≠ (v359 : Value).ownBlock) v350 t348) ∧ Aside0 (Kd.R k47 47 wc w.heap.size (fun k_ => some k_ ≠ (v350 : Value).ownBlock ∧ some k_ ≠ ((.slice Ao25 t355.length co25) : Value).ownBlock ∧ some k_ ≠ (v359 : Value).ownBlock) (.slice Ao24 t352.length co24) t352) ∧ Aside0 (Kd.R k47 47 wc w.heap.size (fun k_ => some k_ ≠ (v350 : Value).ownBlock ∧ some k_ ≠ ((.slice Ao24 t352.length co24) : Value).ownBlock ∧ some k_ ≠ (v359 : Value).ownBlock) (.slice Ao25 t355.length co25) t355) ∧ Aside0 (Kd.R k47 47 wc w.heap.size (fun k_ => some k_ ≠ (v350 : Value).ownBlock ∧ some k_ ≠ ((.slice Ao24 t352.length co24) : Value).ownBlock ∧ some k_ ≠ ((.slice Ao25 t355.length co25) : Value).ownBlock) v359 t358) ∧ Aside0 (Below w.heap.size w wc))
      case first =>
        have H := HC16.out
        clear HC16
        replace H := Option.bind_eq_some_iff.mp H
        obtain ⟨t362, A270, H⟩ := H
        replace H : (if t362 = true then (laws_FnExactJoinTerms.j0 k a0 a1 a2 l3 l4 t348 t349 t352 t355 t358 t361 (t361 != t349)) else (laws_FnExactJoinTerms.j0 k a0 a1 a2 l3 l4 t348 t349 t352 t355 t358 t361 true)) = some r := H
        have A27 := Aside0.mk A270
        clear A270
        by_cases c28 : t362 = true
        · subst c28
          have H1 : (laws_FnExactJoinTerms.j0 k a0 a1 a2 l3 l4 t348 t349 t352 t355 t358 t361 (t361 != t349)) = some r := by rw [if_pos rfl] at H; exact H
          clear H
          have H := H1
          clear H1
          have H' := Aside0.mk H
          clear H
          obtain ⟨Ao29, co29, eo29⟩ := Kd.R_slice HO360.out
          subst eo29
          obtain ⟨Ao30, co30, eo30⟩ := Kd.R_slice HO351.out
          subst eo30
          go_wp2_with (first | ((with_reducible refine gate_callee (f := 14) rfl ?_); refine goesL_ (some 59) rfl rfl Try.func14 (by kernel_rfl) rfl #[.slice Ao29 t358.length co29, .slice Ao30 t348.length co30] rfl qG ?_; (with_reducible refine (laws_eqNodeS.calls k _ _ t358 _ _ t348 true _ ?side1 ?side2 ?side3 ?side4 A27.out).mono ?_); (case side1 => repeat (first | exact (Kd.R_reads' HO360.out).2.2 | (with_reducible refine Kd.C_alloc ?_ _) | (with_reducible refine Kd.C_drewN ?_ _) | (with_reducible refine Kd.C_drew ?_))); (case side2 => exact (Kd.R_reads' HO360.out).2.1); (case side3 => repeat (first | exact (Kd.R_reads' HO351.out).2.2 | (with_reducible refine Kd.C_alloc ?_ _) | (with_reducible refine Kd.C_drewN ?_ _) | (with_reducible refine Kd.C_drew ?_))); (case side4 => exact (Kd.R_reads' HO351.out).2.1); rintro e w31 ⟨rfl, hb⟩; refine ⟨_, rfl, ?_⟩; have n0_ := Aside0.mk (Kd.R_below (qR HO344.out) hb); have n1_ := Aside0.mk (Kd.R_below (qR HO347.out) hb); have n2_ := Aside0.mk (Kd.R_below (qR HO351.out) hb); have n3_ := Aside0.mk (Kd.R_below (qR HO354.out) hb); have n4_ := Aside0.mk (Kd.R_below (qR HO357.out) hb); have n5_ := Aside0.mk (Kd.R_below (qR HO360.out) hb); have n6_ := Aside0.mk (below_step (qB) hb); clear HO344; clear HO347; clear HO351; clear HO354; clear HO357; clear HO360; clear HB; have HO344 := n0_; have HO347 := n1_; have HO351 := n2_; have HO354 := n3_; have HO357 := n4_; have HO360 := n5_; have HB := n6_; clear n0_ n1_ n2_ n3_ n4_ n5_ n6_; (try clear hb); (try clear hb2); (try clear hk); (try clear hi)))
          go_meet
          case rel => exact ⟨_, ((t361 != t349)), qS, H', ⟨by first | omega | exact Nat.le_refl _⟩, ⟨by (with_reducible repeat (first | apply Kd.R_alloc | apply Kd.R_drewN | apply Kd.R_drew)); exact Kd.R_mono HO351.out (fun _ hk => ⟨hk.1.1.2, ⟨hk.1.2, hk.2⟩⟩)⟩, ⟨by (with_reducible repeat (first | apply Kd.R_alloc | apply Kd.R_drewN | apply Kd.R_drew)); exact Kd.R_mono HO354.out (fun _ hk => ⟨hk.1.1.2, ⟨hk.1.2, hk.2⟩⟩)⟩, ⟨by (with_reducible repeat (first | apply Kd.R_alloc | apply Kd.R_drewN | apply Kd.R_drew)); exact Kd.R_mono HO357.out (fun _ hk => ⟨hk.1.1.2, ⟨hk.1.2, hk.2⟩⟩)⟩, ⟨by (with_reducible repeat (first | apply Kd.R_alloc | apply Kd.R_drewN | apply Kd.R_drew)); exact Kd.R_mono HO360.out (fun _ hk => ⟨hk.1.1.2, ⟨hk.1.2, hk.2⟩⟩)⟩, ⟨qB⟩⟩
        · replace c28 := Bool.eq_false_iff.mpr c28
          subst c28
          have H1 : (laws_FnExactJoinTerms.j0 k a0 a1 a2 l3 l4 t348 t349 t352 t355 t358 t361 true) = some r := by rw [if_neg (show ¬ (false = true) by decide)] at H; exact H
          clear H
          have H := H1
          clear H1
          have H' := Aside0.mk H
          clear H
          obtain ⟨Ao32, co32, eo32⟩ := Kd.R_slice HO360.out
          subst eo32
          obtain ⟨Ao33, co33, eo33⟩ := Kd.R_slice HO351.out
          subst eo33
          go_wp2_with (first | ((with_reducible refine gate_callee (f := 14) rfl ?_); refine goesL_ (some 59) rfl rfl Try.func14 (by kernel_rfl) rfl #[.slice Ao32 t358.length co32, .slice Ao33 t348.length co33] rfl qG ?_; (with_reducible refine (laws_eqNodeS.calls k _ _ t358 _ _ t348 false _ ?side1 ?side2 ?side3 ?side4 A27.out).mono ?_); (case side1 => repeat (first | exact (Kd.R_reads' HO360.out).2.2 | (with_reducible refine Kd.C_alloc ?_ _) | (with_reducible refine Kd.C_drewN ?_ _) | (with_reducible refine Kd.C_drew ?_))); (case side2 => exact (Kd.R_reads' HO360.out).2.1); (case side3 => repeat (first | exact (Kd.R_reads' HO351.out).2.2 | (with_reducible refine Kd.C_alloc ?_ _) | (with_reducible refine Kd.C_drewN ?_ _) | (with_reducible refine Kd.C_drew ?_))); (case side4 => exact (Kd.R_reads' HO351.out).2.1); rintro e w34 ⟨rfl, hb⟩; refine ⟨_, rfl, ?_⟩; have n0_ := Aside0.mk (Kd.R_below (qR HO344.out) hb); have n1_ := Aside0.mk (Kd.R_below (qR HO347.out) hb); have n2_ := Aside0.mk (Kd.R_below (qR HO351.out) hb); have n3_ := Aside0.mk (Kd.R_below (qR HO354.out) hb); have n4_ := Aside0.mk (Kd.R_below (qR HO357.out) hb); have n5_ := Aside0.mk (Kd.R_below (qR HO360.out) hb); have n6_ := Aside0.mk (below_step (qB) hb); clear HO344; clear HO347; clear HO351; clear HO354; clear HO357; clear HO360; clear HB; have HO344 := n0_; have HO347 := n1_; have HO351 := n2_; have HO354 := n3_; have HO357 := n4_; have HO360 := n5_; have HB := n6_; clear n0_ n1_ n2_ n3_ n4_ n5_ n6_; (try clear hb); (try clear hb2); (try clear hk); (try clear hi)))
          go_meet
          case rel => exact ⟨_, (true), qS, H', ⟨by first | omega | exact Nat.le_refl _⟩, ⟨by (with_reducible repeat (first | apply Kd.R_alloc | apply Kd.R_drewN | apply Kd.R_drew)); exact Kd.R_mono HO351.out (fun _ hk => ⟨hk.1.1.2, ⟨hk.1.2, hk.2⟩⟩)⟩, ⟨by (with_reducible repeat (first | apply Kd.R_alloc | apply Kd.R_drewN | apply Kd.R_drew)); exact Kd.R_mono HO354.out (fun _ hk => ⟨hk.1.1.2, ⟨hk.1.2, hk.2⟩⟩)⟩, ⟨by (with_reducible repeat (first | apply Kd.R_alloc | apply Kd.R_drewN | apply Kd.R_drew)); exact Kd.R_mono HO357.out (fun _ hk => ⟨hk.1.1.2, ⟨hk.1.2, hk.2⟩⟩)⟩, ⟨by (with_reducible repeat (first | apply Kd.R_alloc | apply Kd.R_drewN | apply Kd.R_drew)); exact Kd.R_mono HO360.out (fun _ hk => ⟨hk.1.1.2, ⟨hk.1.2, hk.2⟩⟩)⟩, ⟨qB⟩⟩
      case rest =>
        clear HC16
        try clear c1
        try clear c2
        try clear p2
        try clear c3
        try clear c4
        try clear c7
        try clear c7b0
        try clear c9
        try clear c9b0
        try clear c10
        try clear c12
        try clear c14
        try clear c23
        try clear c24
        try clear c28
        obtain ⟨kq, x65_15, rfl, HA, HJ15, HO_12, HO_14, HO_15, HO_16, HB⟩ := hcut
        cases kq with
        | zero => exact absurd HA.out (by simp [laws_FnExactJoinTerms.j0])
        | succ kj15 =>
          have H := HA.out
          clear HA
          simp only [laws_FnExactJoinTerms.j0] at H
          by_cases c35 : x65_15 = true
          · subst c35
            have H1 : (some false) = some r := by rw [if_pos rfl] at H; exact H
            clear H
            have H := H1
            clear H1
            obtain rfl := Option.some.inj H
            go_wp2
            go_ret
            exact ⟨qE, qB⟩
          · replace c35 := Bool.eq_false_iff.mpr c35
            subst c35
            have H1 : ((laws_toNodeS.f kj15 l3).bind fun t363 => ((laws_eqNodeS.f kj15 t352 t363).bind fun t366 => (if t366 = true then ((laws_toNodeS.f kj15 l4).bind fun t367 => ((laws_eqNodeS.f kj15 t355 t367).bind fun t370 => (if t370 = true then ((laws_markNodeS.f kj15 t352 1).bind fun bt371 => ((laws_markNodeS.f kj15 t355 bt371.1).bind fun bt373 => (if bt373.1 < 0 then (laws_FnExactJoinTerms.j1 kj15 a0 a1 a2 l3 l4 t348 t349 t358 true) else ((laws_eqNodeS.f kj15 t358 t348).bind fun t375 => (if t375 = true then (laws_FnExactJoinTerms.j1 kj15 a0 a1 a2 l3 l4 t348 t349 t358 (t361 != t349)) else (laws_FnExactJoinTerms.j1 kj15 a0 a1 a2 l3 l4 t348 t349 t358 true)))))) else (some false)))) else (some false)))) = some r := by rw [if_neg (show ¬ (false = true) by decide)] at H; exact H
            clear H
            have H := H1
            clear H1
            replace H := Option.bind_eq_some_iff.mp H
            obtain ⟨t363, A360, H⟩ := H
            replace H : ((laws_eqNodeS.f kj15 t352 t363).bind fun t366 => (if t366 = true then ((laws_toNodeS.f kj15 l4).bind fun t367 => ((laws_eqNodeS.f kj15 t355 t367).bind fun t370 => (if t370 = true then ((laws_markNodeS.f kj15 t352 1).bind fun bt371 => ((laws_markNodeS.f kj15 t355 bt371.1).bind fun bt373 => (if bt373.1 < 0 then (laws_FnExactJoinTerms.j1 kj15 a0 a1 a2 l3 l4 t348 t349 t358 true) else ((laws_eqNodeS.f kj15 t358 t348).bind fun t375 => (if t375 = true then (laws_FnExactJoinTerms.j1 kj15 a0 a1 a2 l3 l4 t348 t349 t358 (t361 != t349)) else (laws_FnExactJoinTerms.j1 kj15 a0 a1 a2 l3 l4 t348 t349 t358 true)))))) else (some false)))) else (some false))) = some r := H
            have A36 := Aside0.mk A360
            clear A360
            replace H := Option.bind_eq_some_iff.mp H
            obtain ⟨t366, A370, H⟩ := H
            replace H : (if t366 = true then ((laws_toNodeS.f kj15 l4).bind fun t367 => ((laws_eqNodeS.f kj15 t355 t367).bind fun t370 => (if t370 = true then ((laws_markNodeS.f kj15 t352 1).bind fun bt371 => ((laws_markNodeS.f kj15 t355 bt371.1).bind fun bt373 => (if bt373.1 < 0 then (laws_FnExactJoinTerms.j1 kj15 a0 a1 a2 l3 l4 t348 t349 t358 true) else ((laws_eqNodeS.f kj15 t358 t348).bind fun t375 => (if t375 = true then (laws_FnExactJoinTerms.j1 kj15 a0 a1 a2 l3 l4 t348 t349 t358 (t361 != t349)) else (laws_FnExactJoinTerms.j1 kj15 a0 a1 a2 l3 l4 t348 t349 t358 true)))))) else (some false)))) else (some false)) = some r := H
            have A37 := Aside0.mk A370
            clear A370
            by_cases c38 : t366 = true
            · subst c38
              have H1 : ((laws_toNodeS.f kj15 l4).bind fun t367 => ((laws_eqNodeS.f kj15 t355 t367).bind fun t370 => (if t370 = true then ((laws_markNodeS.f kj15 t352 1).bind fun bt371 => ((laws_markNodeS.f kj15 t355 bt371.1).bind fun bt373 => (if bt373.1 < 0 then (laws_FnExactJoinTerms.j1 kj15 a0 a1 a2 l3 l4 t348 t349 t358 true) else ((laws_eqNodeS.f kj15 t358 t348).bind fun t375 => (if t375 = true then (laws_FnExactJoinTerms.j1 kj15 a0 a1 a2 l3 l4 t348 t349 t358 (t361 != t349)) else (laws_FnExactJoinTerms.j1 kj15 a0 a1 a2 l3 l4 t348 t349 t358 true)))))) else (some false)))) = some r := by rw [if_pos rfl] at H; exact H
              clear H
              have H := H1
              clear H1
              replace H := Option.bind_eq_some_iff.mp H
              obtain ⟨t367, A390, H⟩ := H
              replace H : ((laws_eqNodeS.f kj15 t355 t367).bind fun t370 => (if t370 = true then ((laws_markNodeS.f kj15 t352 1).bind fun bt371 => ((laws_markNodeS.f kj15 t355 bt371.1).bind fun bt373 => (if bt373.1 < 0 then (laws_FnExactJoinTerms.j1 kj15 a0 a1 a2 l3 l4 t348 t349 t358 true) else ((laws_eqNodeS.f kj15 t358 t348).bind fun t375 => (if t375 = true then (laws_FnExactJoinTerms.j1 kj15 a0 a1 a2 l3 l4 t348 t349 t358 (t361 != t349)) else (laws_FnExactJoinTerms.j1 kj15 a0 a1 a2 l3 l4 t348 t349 t358 true)))))) else (some false))) = some r := H
              have A39 := Aside0.mk A390
              clear A390
              replace H := Option.bind_eq_some_iff.mp H
              obtain ⟨t370, A400, H⟩ := H
              replace H : (if t370 = true then ((laws_markNodeS.f kj15 t352 1).bind fun bt371 => ((laws_markNodeS.f kj15 t355 bt371.1).bind fun bt373 => (if bt373.1 < 0 then (laws_FnExactJoinTerms.j1 kj15 a0 a1 a2 l3 l4 t348 t349 t358 true) else ((laws_eqNodeS.f kj15 t358 t348).bind fun t375 => (if t375 = true then (laws_FnExactJoinTerms.j1 kj15 a0 a1 a2 l3 l4 t348 t349 t358 (t361 != t349)) else (laws_FnExactJoinTerms.j1 kj15 a0 a1 a2 l3 l4 t348 t349 t358 true)))))) else (some false)) = some r := H
              have A40 := Aside0.mk A400
              clear A400
              by_cases c41 : t370 = true
              · subst c41
                have H1 : ((laws_markNodeS.f kj15 t352 1).bind fun bt371 => ((laws_markNodeS.f kj15 t355 bt371.1).bind fun bt373 => (if bt373.1 < 0 then (laws_FnExactJoinTerms.j1 kj15 a0 a1 a2 l3 l4 t348 t349 t358 true) else ((laws_eqNodeS.f kj15 t358 t348).bind fun t375 => (if t375 = true then (laws_FnExactJoinTerms.j1 kj15 a0 a1 a2 l3 l4 t348 t349 t358 (t361 != t349)) else (laws_FnExactJoinTerms.j1 kj15 a0 a1 a2 l3 l4 t348 t349 t358 true)))))) = some r := by rw [if_pos rfl] at H; exact H
                clear H
                have H := H1
                clear H1
                replace H := Option.bind_eq_some_iff.mp H
                obtain ⟨⟨t371, t372⟩, A420, H⟩ := H
                replace H : ((laws_markNodeS.f kj15 t355 t371).bind fun bt373 => (if bt373.1 < 0 then (laws_FnExactJoinTerms.j1 kj15 a0 a1 a2 l3 l4 t348 t349 t358 true) else ((laws_eqNodeS.f kj15 t358 t348).bind fun t375 => (if t375 = true then (laws_FnExactJoinTerms.j1 kj15 a0 a1 a2 l3 l4 t348 t349 t358 (t361 != t349)) else (laws_FnExactJoinTerms.j1 kj15 a0 a1 a2 l3 l4 t348 t349 t358 true))))) = some r := H
                have A42 := Aside0.mk A420
                clear A420
                replace H := Option.bind_eq_some_iff.mp H
                obtain ⟨⟨t373, t374⟩, A430, H⟩ := H
                replace H : (if t373 < 0 then (laws_FnExactJoinTerms.j1 kj15 a0 a1 a2 l3 l4 t348 t349 t358 true) else ((laws_eqNodeS.f kj15 t358 t348).bind fun t375 => (if t375 = true then (laws_FnExactJoinTerms.j1 kj15 a0 a1 a2 l3 l4 t348 t349 t358 (t361 != t349)) else (laws_FnExactJoinTerms.j1 kj15 a0 a1 a2 l3 l4 t348 t349 t358 true)))) = some r := H
                have A43 := Aside0.mk A430
                clear A430
                have HC44 := Aside0.mk H
                clear H
                go_upto_region 21 with (first | ((with_reducible refine gate_callee (f := 12) rfl ?_); refine goesL_ (some 68) rfl rfl Try.func12 (by kernel_rfl) rfl #[.slice A3 l3.length c3] rfl qG ?_; (with_reducible refine (laws_toNodeS.calls kj15 _ _ l3 t363 _ ?side1 ?side2 A36.out).mono ?_); (case side1 => exact qC (Kd.C_below HR3.out HB.out)); (case side2 => exact HC3.out); rintro e w45 ⟨v364, rfl, ho0, hb⟩; refine ⟨_, rfl, ?_⟩; have n0_ := Aside0.mk (Kd.R_elder' (qR HO_12.out) (Kd.R_base ho0) hb); have n1_ := Aside0.mk (Kd.R_elder' (qR HO_14.out) (Kd.R_base ho0) hb); have n2_ := Aside0.mk (Kd.R_elder' (qR HO_15.out) (Kd.R_base ho0) hb); have n3_ := Aside0.mk (Kd.R_elder' (qR HO_16.out) (Kd.R_base ho0) hb); have n4_ := Aside0.mk (Kd.R_lower (Kd.R_new' (Kd.R_new' (Kd.R_new' (Kd.R_new' ho0 (Kd.R_lt (qR HO_12.out))) (Kd.R_lt (qR HO_14.out))) (Kd.R_lt (qR HO_15.out))) (Kd.R_lt (qR HO_16.out))) (below_size (qB))); have n5_ := Aside0.mk (below_step (qB) hb); clear HO_12; clear HO_14; clear HO_15; clear HO_16; clear HB; have HO_12 := n0_; have HO_14 := n1_; have HO_15 := n2_; have HO_16 := n3_; have HO365 := n4_; have HB := n5_; clear n0_ n1_ n2_ n3_ n4_ n5_; (try clear hb); (try clear hb2); (try clear hk); (try clear hi); (try clear ho0); obtain ⟨Ao46, co46, eo46⟩ := Kd.R_slice HO365.out; subst eo46) | ((with_reducible refine gate_callee (f := 14) rfl ?_); refine goesL_ (some 69) rfl rfl Try.func14 (by kernel_rfl) rfl #[.slice Ao24 t352.length co24, .slice Ao46 t363.length co46] rfl qG ?_; (with_reducible refine (laws_eqNodeS.calls kj15 _ _ t352 _ _ t363 true _ ?side1 ?side2 ?side3 ?side4 A37.out).mono ?_); (case side1 => repeat (first | exact (Kd.R_reads' HO_14.out).2.2 | (with_reducible refine Kd.C_alloc ?_ _) | (with_reducible refine Kd.C_drewN ?_ _) | (with_reducible refine Kd.C_drew ?_))); (case side2 => exact (Kd.R_reads' HO_14.out).2.1); (case side3 => repeat (first | exact (Kd.R_reads' HO365.out).2.2 | (with_reducible refine Kd.C_alloc ?_ _) | (with_reducible refine Kd.C_drewN ?_ _) | (with_reducible refine Kd.C_drew ?_))); (case side4 => exact (Kd.R_reads' HO365.out).2.1); rintro e w47 ⟨rfl, hb⟩; refine ⟨_, rfl, ?_⟩; have n0_ := Aside0.mk (Kd.R_below (qR HO_12.out) hb); have n1_ := Aside0.mk (Kd.R_below (qR HO_14.out) hb); have n2_ := Aside0.mk (Kd.R_below (qR HO_15.out) hb); have n3_ := Aside0.mk (Kd.R_below (qR HO_16.out) hb); have n4_ := Aside0.mk (Kd.R_below (qR HO365.out) hb); have n5_ := Aside0.mk (below_step (qB) hb); clear HO_12; clear HO_14; clear HO_15; clear HO_16; clear HO365; clear HB; have HO_12 := n0_; have HO_14 := n1_; have HO_15 := n2_; have HO_16 := n3_; have HO365 := n4_; have HB := n5_; clear n0_ n1_ n2_ n3_ n4_ n5_; (try clear hb); (try clear hb2); (try clear hk); (try clear hi)) | ((with_reducible refine gate_callee (f := 12) rfl ?_); refine goesL_ (some 73) rfl rfl Try.func12 (by kernel_rfl) rfl #[.slice A4 l4.length c4] rfl qG ?_; (with_reducible refine (laws_toNodeS.calls kj15 _ _ l4 t367 _ ?side1 ?side2 A39.out).mono ?_); (case side1 => exact qC (Kd.C_below HR4.out HB.out)); (case side2 => exact HC4.out); rintro e w48 ⟨v368, rfl, ho0, hb⟩; refine ⟨_, rfl, ?_⟩; have n0_ := Aside0.mk (Kd.R_elder' (qR HO_12.out) (Kd.R_base ho0) hb); have n1_ := Aside0.mk (Kd.R_elder' (qR HO_14.out) (Kd.R_base ho0) hb); have n2_ := Aside0.mk (Kd.R_elder' (qR HO_15.out) (Kd.R_base ho0) hb); have n3_ := Aside0.mk (Kd.R_elder' (qR HO_16.out) (Kd.R_base ho0) hb); have n4_ := Aside0.mk (Kd.R_elder' (qR HO365.out) (Kd.R_base ho0) hb); have n5_ := Aside0.mk (Kd.R_lower (Kd.R_new' (Kd.R_new' (Kd.R_new' (Kd.R_new' (Kd.R_new' ho0 (Kd.R_lt (qR HO_12.out))) (Kd.R_lt (qR HO_14.out))) (Kd.R_lt (qR HO_15.out))) (Kd.R_lt (qR HO_16.out))) (Kd.R_lt (qR HO365.out))) (below_size (qB))); have n6_ := Aside0.mk (below_step (qB) hb); clear HO_12; clear HO_14; clear HO_15; clear HO_16; clear HO365; clear HB; have HO_12 := n0_; have HO_14 := n1_; have HO_15 := n2_; have HO_16 := n3_; have HO365 := n4_; have HO369 := n5_; have HB := n6_; clear n0_ n1_ n2_ n3_ n4_ n5_ n6_; (try clear hb); (try clear hb2); (try clear hk); (try clear hi); (try clear ho0); obtain ⟨Ao49, co49, eo49⟩ := Kd.R_slice HO369.out; subst eo49) | ((with_reducible refine gate_callee (f := 14) rfl ?_); refine goesL_ (some 74) rfl rfl Try.func14 (by kernel_rfl) rfl #[.slice Ao25 t355.length co25, .slice Ao49 t367.length co49] rfl qG ?_; (with_reducible refine (laws_eqNodeS.calls kj15 _ _ t355 _ _ t367 true _ ?side1 ?side2 ?side3 ?side4 A40.out).mono ?_); (case side1 => repeat (first | exact (Kd.R_reads' HO_15.out).2.2 | (with_reducible refine Kd.C_alloc ?_ _) | (with_reducible refine Kd.C_drewN ?_ _) | (with_reducible refine Kd.C_drew ?_))); (case side2 => exact (Kd.R_reads' HO_15.out).2.1); (case side3 => repeat (first | exact (Kd.R_reads' HO369.out).2.2 | (with_reducible refine Kd.C_alloc ?_ _) | (with_reducible refine Kd.C_drewN ?_ _) | (with_reducible refine Kd.C_drew ?_))); (case side4 => exact (Kd.R_reads' HO369.out).2.1); rintro e w50 ⟨rfl, hb⟩; refine ⟨_, rfl, ?_⟩; have n0_ := Aside0.mk (Kd.R_below (qR HO_12.out) hb); have n1_ := Aside0.mk (Kd.R_below (qR HO_14.out) hb); have n2_ := Aside0.mk (Kd.R_below (qR HO_15.out) hb); have n3_ := Aside0.mk (Kd.R_below (qR HO_16.out) hb); have n4_ := Aside0.mk (Kd.R_below (qR HO365.out) hb); have n5_ := Aside0.mk (Kd.R_below (qR HO369.out) hb); have n6_ := Aside0.mk (below_step (qB) hb); clear HO_12; clear HO_14; clear HO_15; clear HO_16; clear HO365; clear HO369; clear HB; have HO_12 := n0_; have HO_14 := n1_; have HO_15 := n2_; have HO_16 := n3_; have HO365 := n4_; have HO369 := n5_; have HB := n6_; clear n0_ n1_ n2_ n3_ n4_ n5_ n6_; (try clear hb); (try clear hb2); (try clear hk); (try clear hi)) | ((with_reducible refine gate_callee (f := 21) rfl ?_); refine goesL_ (some 78) rfl rfl Try.func21 (by kernel_rfl) rfl #[.slice Ao24 t352.length co24, .int .i64 1] rfl qG ?_; (with_reducible refine (laws_markNodeS.calls kj15 (fun k_ => some k_ = (.slice Ao24 t352.length co24 : Value).ownBlock) (.slice Ao24 t352.length co24) t352 1 t371 t372 w _ ?side1 ?side2 A42.out).mono ?_); (case side1 => repeat (first | (with_reducible first | exact HB.out | apply below_alloc | apply pw_below_drewN | apply below_drew1) | exact HB.out)); (case side2 => exact Kd.R_tight rfl HO_14.out); rintro e w51 ⟨rfl, hy0, hb, hkp⟩; refine ⟨_, rfl, ?_⟩; have n0_ := Aside0.mk (Kd.R_mono (ok' := fun k_ => some k_ ≠ (.slice Ao24 t352.length co24 : Value).ownBlock ∧ some k_ ≠ (.slice Ao25 t355.length co25 : Value).ownBlock ∧ some k_ ≠ (v359 : Value).ownBlock ∧ some k_ ≠ (.slice Ao46 t363.length co46 : Value).ownBlock ∧ some k_ ≠ (.slice Ao49 t367.length co49 : Value).ownBlock) (Kd.R_keptB (HO_12.out) hkp (fun k_ hk_ hs_ => (hk_.1.1.1) hs_)) (fun k_ hk_ => ⟨hk_.1.1.1.1, hk_.1.1.1.2.1, hk_.1.1.1.2.2, hk_.1.1.2, hk_.1.2⟩)); have n1_ := Aside0.mk (Kd.R_reok rfl hy0 (fun k_ e_ => HO_14.out.1 k_ e_)); have n2_ := Aside0.mk (Kd.R_mono (ok' := fun k_ => some k_ ≠ (v350 : Value).ownBlock ∧ some k_ ≠ (.slice Ao24 t352.length co24 : Value).ownBlock ∧ some k_ ≠ (v359 : Value).ownBlock ∧ some k_ ≠ (.slice Ao46 t363.length co46 : Value).ownBlock ∧ some k_ ≠ (.slice Ao49 t367.length co49 : Value).ownBlock) (Kd.R_keptB (HO_15.out) hkp (fun k_ hk_ hs_ => (hk_.1.1.2.1) hs_)) (fun k_ hk_ => ⟨hk_.1.1.1.1, hk_.1.1.1.2.1, hk_.1.1.1.2.2, hk_.1.1.2, hk_.1.2⟩)); have n3_ := Aside0.mk (Kd.R_mono (ok' := fun k_ => some k_ ≠ (v350 : Value).ownBlock ∧ some k_ ≠ (.slice Ao24 t352.length co24 : Value).ownBlock ∧ some k_ ≠ (.slice Ao25 t355.length co25 : Value).ownBlock ∧ some k_ ≠ (.slice Ao46 t363.length co46 : Value).ownBlock ∧ some k_ ≠ (.slice Ao49 t367.length co49 : Value).ownBlock) (Kd.R_keptB (HO_16.out) hkp (fun k_ hk_ hs_ => (hk_.1.1.2.1) hs_)) (fun k_ hk_ => ⟨hk_.1.1.1.1, hk_.1.1.1.2.1, hk_.1.1.1.2.2, hk_.1.1.2, hk_.1.2⟩)); have n4_ := Aside0.mk (Kd.R_mono (ok' := fun k_ => some k_ ≠ (v350 : Value).ownBlock ∧ some k_ ≠ (.slice Ao24 t352.length co24 : Value).ownBlock ∧ some k_ ≠ (.slice Ao25 t355.length co25 : Value).ownBlock ∧ some k_ ≠ (v359 : Value).ownBlock ∧ some k_ ≠ (.slice Ao49 t367.length co49 : Value).ownBlock) (Kd.R_keptB (HO365.out) hkp (fun k_ hk_ hs_ => (hk_.1.1.1.2) hs_)) (fun k_ hk_ => ⟨hk_.1.1.1.1.1.2, hk_.1.1.1.1.2, hk_.1.1.1.2, hk_.1.1.2, hk_.1.2⟩)); have n5_ := Aside0.mk (Kd.R_mono (ok' := fun k_ => some k_ ≠ (v350 : Value).ownBlock ∧ some k_ ≠ (.slice Ao24 t352.length co24 : Value).ownBlock ∧ some k_ ≠ (.slice Ao25 t355.length co25 : Value).ownBlock ∧ some k_ ≠ (v359 : Value).ownBlock ∧ some k_ ≠ (.slice Ao46 t363.length co46 : Value).ownBlock) (Kd.R_keptB (HO369.out) hkp (fun k_ hk_ hs_ => (hk_.1.1.1.2) hs_)) (fun k_ hk_ => ⟨hk_.1.1.1.1.1.2, hk_.1.1.1.1.2, hk_.1.1.1.2, hk_.1.1.2, hk_.1.2⟩)); have n6_ := Aside0.mk (hb); clear HO_12; clear HO_14; clear HO_15; clear HO_16; clear HO365; clear HO369; clear HB; have HO_12 := n0_; have HO_14 := n1_; have HO_15 := n2_; have HO_16 := n3_; have HO365 := n4_; have HO369 := n5_; have HB := n6_; clear n0_ n1_ n2_ n3_ n4_ n5_ n6_; (try clear hb); (try clear hkp); (try clear hy0)) | ((with_reducible refine gate_callee (f := 21) rfl ?_); refine goesL_ (some 81) rfl rfl Try.func21 (by kernel_rfl) rfl #[.slice Ao25 t355.length co25, .int .i64 t371] rfl qG ?_; (with_reducible refine (laws_markNodeS.calls kj15 (fun k_ => some k_ = (.slice Ao25 t355.length co25 : Value).ownBlock) (.slice Ao25 t355.length co25) t355 t371 t373 t374 w _ ?side1 ?side2 A43.out).mono ?_); (case side1 => repeat (first | (with_reducible first | exact HB.out | apply below_alloc | apply pw_below_drewN | apply below_drew1) | exact HB.out)); (case side2 => exact Kd.R_tight rfl HO_15.out); rintro e w52 ⟨rfl, hy0, hb, hkp⟩; refine ⟨_, rfl, ?_⟩; have n0_ := Aside0.mk (Kd.R_mono (ok' := fun k_ => some k_ ≠ (.slice Ao24 t352.length co24 : Value).ownBlock ∧ some k_ ≠ (.slice Ao25 t355.length co25 : Value).ownBlock ∧ some k_ ≠ (v359 : Value).ownBlock ∧ some k_ ≠ (.slice Ao46 t363.length co46 : Value).ownBlock ∧ some k_ ≠ (.slice Ao49 t367.length co49 : Value).ownBlock) (Kd.R_keptB (HO_12.out) hkp (fun k_ hk_ hs_ => (hk_.2.1) hs_)) (fun k_ hk_ => ⟨hk_.1.1, hk_.1.2.1, hk_.1.2.2.1, hk_.1.2.2.2.1, hk_.1.2.2.2.2⟩)); have n1_ := Aside0.mk (Kd.R_mono (ok' := fun k_ => some k_ ≠ (v350 : Value).ownBlock ∧ some k_ ≠ (.slice Ao25 t355.length co25 : Value).ownBlock ∧ some k_ ≠ (v359 : Value).ownBlock ∧ some k_ ≠ (.slice Ao46 t363.length co46 : Value).ownBlock ∧ some k_ ≠ (.slice Ao49 t367.length co49 : Value).ownBlock) (Kd.R_keptB (HO_14.out) hkp (fun k_ hk_ hs_ => (hk_.1.1.2.1) hs_)) (fun k_ hk_ => ⟨hk_.1.1.1.1, hk_.1.1.1.2.1, hk_.1.1.1.2.2, hk_.1.1.2, hk_.1.2⟩)); have n2_ := Aside0.mk (Kd.R_reok rfl hy0 (fun k_ e_ => HO_15.out.1 k_ e_)); have n3_ := Aside0.mk (Kd.R_mono (ok' := fun k_ => some k_ ≠ (v350 : Value).ownBlock ∧ some k_ ≠ (.slice Ao24 t352.length co24 : Value).ownBlock ∧ some k_ ≠ (.slice Ao25 t355.length co25 : Value).ownBlock ∧ some k_ ≠ (.slice Ao46 t363.length co46 : Value).ownBlock ∧ some k_ ≠ (.slice Ao49 t367.length co49 : Value).ownBlock) (Kd.R_keptB (HO_16.out) hkp (fun k_ hk_ hs_ => (hk_.2.2.1) hs_)) (fun k_ hk_ => ⟨hk_.1.1, hk_.1.2.1, hk_.1.2.2.1, hk_.1.2.2.2.1, hk_.1.2.2.2.2⟩)); have n4_ := Aside0.mk (Kd.R_mono (ok' := fun k_ => some k_ ≠ (v350 : Value).ownBlock ∧ some k_ ≠ (.slice Ao24 t352.length co24 : Value).ownBlock ∧ some k_ ≠ (.slice Ao25 t355.length co25 : Value).ownBlock ∧ some k_ ≠ (v359 : Value).ownBlock ∧ some k_ ≠ (.slice Ao49 t367.length co49 : Value).ownBlock) (Kd.R_keptB (HO365.out) hkp (fun k_ hk_ hs_ => (hk_.2.2.1) hs_)) (fun k_ hk_ => ⟨hk_.1.1, hk_.1.2.1, hk_.1.2.2.1, hk_.1.2.2.2.1, hk_.1.2.2.2.2⟩)); have n5_ := Aside0.mk (Kd.R_mono (ok' := fun k_ => some k_ ≠ (v350 : Value).ownBlock ∧ some k_ ≠ (.slice Ao24 t352.length co24 : Value).ownBlock ∧ some k_ ≠ (.slice Ao25 t355.length co25 : Value).ownBlock ∧ some k_ ≠ (v359 : Value).ownBlock ∧ some k_ ≠ (.slice Ao46 t363.length co46 : Value).ownBlock) (Kd.R_keptB (HO369.out) hkp (fun k_ hk_ hs_ => (hk_.2.2.1) hs_)) (fun k_ hk_ => ⟨hk_.1.1, hk_.1.2.1, hk_.1.2.2.1, hk_.1.2.2.2.1, hk_.1.2.2.2.2⟩)); have n6_ := Aside0.mk (hb); clear HO_12; clear HO_14; clear HO_15; clear HO_16; clear HO365; clear HO369; clear HB; have HO_12 := n0_; have HO_14 := n1_; have HO_15 := n2_; have HO_16 := n3_; have HO365 := n4_; have HO369 := n5_; have HB := n6_; clear n0_ n1_ n2_ n3_ n4_ n5_ n6_; (try clear hb); (try clear hkp); (try clear hy0)))
                (try simp only [Act.put, List.setIfInBounds_toArray, List.set_cons_zero, List.set_cons_succ])
                go_cut [94] (fun v94 wc => ∃ (kq : Nat) (x94_43 : Bool), v94 = .bool x94_43 ∧ Aside0 (laws_FnExactJoinTerms.j1 kq a0 a1 a2 l3 l4 t348 t349 t358 x94_43 = some r) ∧ Aside0 (kq ≤ kj15) ∧ Aside0 (Kd.R k47 47 wc w.heap.size (fun k_ => some k_ ≠ (v359 : Value).ownBlock) v350 t348) ∧ Aside0 (Kd.R k47 47 wc w.heap.size (fun k_ => some k_ ≠ (v350 : Value).ownBlock) v359 t358) ∧ Aside0 (Below w.heap.size w wc))
                case first =>
                  have H := HC44.out
                  clear HC44
                  by_cases c53 : t373 < 0
                  · rw [if_pos c53] at H
                    have c53b0 : decide (t373 < 0) = true := decide_eq_true c53
                    clear c53
                    (first | rw [c53b0] | (simp only [i64_w, i32_w]; rw [c53b0]) | skip)
                    have H' := Aside0.mk H
                    clear H
                    go_wp2
                    go_meet
                    case rel => exact ⟨_, (true), qS, H', ⟨by have := HJ15.out; first | omega | exact Nat.le_refl _⟩, ⟨by (with_reducible repeat (first | apply Kd.R_alloc | apply Kd.R_drewN | apply Kd.R_drew)); exact Kd.R_mono HO_12.out (fun _ hk => hk.2.2.1)⟩, ⟨by (with_reducible repeat (first | apply Kd.R_alloc | apply Kd.R_drewN | apply Kd.R_drew)); exact Kd.R_mono HO_16.out (fun _ hk => hk.1)⟩, ⟨qB⟩⟩
                  · rw [if_neg c53] at H
                    have c53b0 : decide (t373 < 0) = false := decide_eq_false c53
                    clear c53
                    (first | rw [c53b0] | (simp only [i64_w, i32_w]; rw [c53b0]) | skip)
                    replace H := Option.bind_eq_some_iff.mp H
                    obtain ⟨t375, A540, H⟩ := H
                    replace H : (if t375 = true then (laws_FnExactJoinTerms.j1 kj15 a0 a1 a2 l3 l4 t348 t349 t358 (t361 != t349)) else (laws_FnExactJoinTerms.j1 kj15 a0 a1 a2 l3 l4 t348 t349 t358 true)) = some r := H
                    have A54 := Aside0.mk A540
                    clear A540
                    by_cases c55 : t375 = true
                    · subst c55
                      have H1 : (laws_FnExactJoinTerms.j1 kj15 a0 a1 a2 l3 l4 t348 t349 t358 (t361 != t349)) = some r := by rw [if_pos rfl] at H; exact H
                      clear H
                      have H := H1
                      clear H1
                      have H' := Aside0.mk H
                      clear H
                      obtain ⟨Ao56, co56, eo56⟩ := Kd.R_slice HO_16.out
                      subst eo56
                      obtain ⟨Ao57, co57, eo57⟩ := Kd.R_slice HO_12.out
                      subst eo57
                      go_wp2_with (first | (go_at_call 14; (with_reducible refine (laws_eqNodeS.calls kj15 _ _ t358 _ _ t348 true _ ?side1 ?side2 ?side3 ?side4 A54.out).mono ?_); (case side1 => repeat (first | exact (Kd.R_reads' HO_16.out).2.2 | (with_reducible refine Kd.C_alloc ?_ _) | (with_reducible refine Kd.C_drewN ?_ _) | (with_reducible refine Kd.C_drew ?_))); (case side2 => exact (Kd.R_reads' HO_16.out).2.1); (case side3 => repeat (first | exact (Kd.R_reads' HO_12.out).2.2 | (with_reducible refine Kd.C_alloc ?_ _) | (with_reducible refine Kd.C_drewN ?_ _) | (with_reducible refine Kd.C_drew ?_))); (case side4 => exact (Kd.R_reads' HO_12.out).2.1); rintro e w58 ⟨rfl, hb⟩; have n0_ := Aside0.mk (Kd.R_below (qR HO_12.out) hb); have n1_ := Aside0.mk (Kd.R_below (qR HO_14.out) hb); have n2_ := Aside0.mk (Kd.R_below (qR HO_15.out) hb); have n3_ := Aside0.mk (Kd.R_below (qR HO_16.out) hb); have n4_ := Aside0.mk (Kd.R_below (qR HO365.out) hb); have n5_ := Aside0.mk (Kd.R_below (qR HO369.out) hb); have n6_ := Aside0.mk (below_step (qB) hb); clear HO_12; clear HO_14; clear HO_15; clear HO_16; clear HO365; clear HO369; clear HB; have HO_12 := n0_; have HO_14 := n1_; have HO_15 := n2_; have HO_16 := n3_; have HO365 := n4_; have HO369 := n5_; have HB := n6_; clear n0_ n1_ n2_ n3_ n4_ n5_ n6_; (try clear hb); (try clear hb2); (try clear hk); (try clear hi)))
                      go_meet
                      case rel => exact ⟨_, ((t361 != t349)), qS, H', ⟨by have := HJ15.out; first | omega | exact Nat.le_refl _⟩, ⟨by (with_reducible repeat (first | apply Kd.R_alloc | apply Kd.R_drewN | apply Kd.R_drew)); exact Kd.R_mono HO_12.out (fun _ hk => hk.2.2.1)⟩, ⟨by (with_reducible repeat (first | apply Kd.R_alloc | apply Kd.R_drewN | apply Kd.R_drew)); exact Kd.R_mono HO_16.out (fun _ hk => hk.1)⟩, ⟨qB⟩⟩
                    · replace c55 := Bool.eq_false_iff.mpr c55
                      subst c55
                      have H1 : (laws_FnExactJoinTerms.j1 kj15 a0 a1 a2 l3 l4 t348 t349 t358 true) = some r := by rw [if_neg (show ¬ (false = true) by decide)] at H; exact H
                      clear H
                      have H := H1
                      clear H1
                      have H' := Aside0.mk H
                      clear H
                      obtain ⟨Ao59, co59, eo59⟩ := Kd.R_slice HO_16.out
                      subst eo59
                      obtain ⟨Ao60, co60, eo60⟩ := Kd.R_slice HO_12.out
                      subst eo60
                      go_wp2_with (first | (go_at_call 14; (with_reducible refine (laws_eqNodeS.calls kj15 _ _ t358 _ _ t348 false _ ?side1 ?side2 ?side3 ?side4 A54.out).mono ?_); (case side1 => repeat (first | exact (Kd.R_reads' HO_16.out).2.2 | (with_reducible refine Kd.C_alloc ?_ _) | (with_reducible refine Kd.C_drewN ?_ _) | (with_reducible refine Kd.C_drew ?_))); (case side2 => exact (Kd.R_reads' HO_16.out).2.1); (case side3 => repeat (first | exact (Kd.R_reads' HO_12.out).2.2 | (with_reducible refine Kd.C_alloc ?_ _) | (with_reducible refine Kd.C_drewN ?_ _) | (with_reducible refine Kd.C_drew ?_))); (case side4 => exact (Kd.R_reads' HO_12.out).2.1); rintro e w61 ⟨rfl, hb⟩; have n0_ := Aside0.mk (Kd.R_below (qR HO_12.out) hb); have n1_ := Aside0.mk (Kd.R_below (qR HO_14.out) hb); have n2_ := Aside0.mk (Kd.R_below (qR HO_15.out) hb); have n3_ := Aside0.mk (Kd.R_below (qR HO_16.out) hb); have n4_ := Aside0.mk (Kd.R_below (qR HO365.out) hb); have n5_ := Aside0.mk (Kd.R_below (qR HO369.out) hb); have n6_ := Aside0.mk (below_step (qB) hb); clear HO_12; clear HO_14; clear HO_15; clear HO_16; clear HO365; clear HO369; clear HB; have HO_12 := n0_; have HO_14 := n1_; have HO_15 := n2_; have HO_16 := n3_; have HO365 := n4_; have HO369 := n5_; have HB := n6_; clear n0_ n1_ n2_ n3_ n4_ n5_ n6_; (try clear hb); (try clear hb2); (try clear hk); (try clear hi)))
                      go_meet
                      case rel => exact ⟨_, (true), qS, H', ⟨by have := HJ15.out; first | omega | exact Nat.le_refl _⟩, ⟨by (with_reducible repeat (first | apply Kd.R_alloc | apply Kd.R_drewN | apply Kd.R_drew)); exact Kd.R_mono HO_12.out (fun _ hk => hk.2.2.1)⟩, ⟨by (with_reducible repeat (first | apply Kd.R_alloc | apply Kd.R_drewN | apply Kd.R_drew)); exact Kd.R_mono HO_16.out (fun _ hk => hk.1)⟩, ⟨qB⟩⟩
                case rest =>
                  clear HC44
                  try clear c1
                  try clear c2
                  try clear p2
                  try clear c3
                  try clear c4
                  try clear c5
                  try clear c7
                  try clear c7b0
                  try clear c9
                  try clear c9b0
                  try clear c10
                  try clear c12
                  try clear c14
                  try clear c21
                  try clear c23
                  try clear c24
                  try clear c28
                  try clear c35
                  try clear c38
                  try clear c41
                  try clear c53
                  try clear c53b0
                  try clear c55
                  try clear p2
                  obtain ⟨kq, x94_43, rfl, HA, HJ43, HO_12, HO_16, HB⟩ := hcut
                  cases kq with
                  | zero => exact absurd HA.out (by simp [laws_FnExactJoinTerms.j1])
                  | succ kj43 =>
                    have H := HA.out
                    clear HA
                    simp only [laws_FnExactJoinTerms.j1] at H
                    by_cases c62 : x94_43 = true
                    · subst c62
                      have H1 : (some false) = some r := by rw [if_pos rfl] at H; exact H
                      clear H
                      have H := H1
                      clear H1
                      obtain rfl := Option.some.inj H
                      go_wp2
                      go_ret
                      exact ⟨qE, qB⟩
                    · replace c62 := Bool.eq_false_iff.mpr c62
                      subst c62
                      have H1 : ((laws_markNodeS.f kj43 t358 1).bind fun bt376 => ((laws_heldNodeS.f kj43 bt376.2 1).bind fun t378 => (if t378 < 0 then (some false) else (if t378 = bt376.1 then ((laws_toNodeS.f kj43 l3).bind fun t379 => ((laws_toNodeS.f kj43 l4).bind fun t382 => ((impl_JoinTerms.f kj43 a0 a1 a2 t379 t382).bind fun bt385 => ((laws_eqNodeS.f kj43 bt385.1 t348).bind fun t389 => (if t389 = true then (laws_FnExactJoinTerms.j2 kj43 bt376.2 bt376.1 (bt385.2 != t349)) else (laws_FnExactJoinTerms.j2 kj43 bt376.2 bt376.1 true)))))) else (some false))))) = some r := by rw [if_neg (show ¬ (false = true) by decide)] at H; exact H
                      clear H
                      have H := H1
                      clear H1
                      replace H := Option.bind_eq_some_iff.mp H
                      obtain ⟨⟨t376, t377⟩, A630, H⟩ := H
                      replace H : ((laws_heldNodeS.f kj43 t377 1).bind fun t378 => (if t378 < 0 then (some false) else (if t378 = t376 then ((laws_toNodeS.f kj43 l3).bind fun t379 => ((laws_toNodeS.f kj43 l4).bind fun t382 => ((impl_JoinTerms.f kj43 a0 a1 a2 t379 t382).bind fun bt385 => ((laws_eqNodeS.f kj43 bt385.1 t348).bind fun t389 => (if t389 = true then (laws_FnExactJoinTerms.j2 kj43 t377 t376 (bt385.2 != t349)) else (laws_FnExactJoinTerms.j2 kj43 t377 t376 true)))))) else (some false)))) = some r := H
                      have A63 := Aside0.mk A630
                      clear A630
                      replace H := Option.bind_eq_some_iff.mp H
                      obtain ⟨t378, A640, H⟩ := H
                      replace H : (if t378 < 0 then (some false) else (if t378 = t376 then ((laws_toNodeS.f kj43 l3).bind fun t379 => ((laws_toNodeS.f kj43 l4).bind fun t382 => ((impl_JoinTerms.f kj43 a0 a1 a2 t379 t382).bind fun bt385 => ((laws_eqNodeS.f kj43 bt385.1 t348).bind fun t389 => (if t389 = true then (laws_FnExactJoinTerms.j2 kj43 t377 t376 (bt385.2 != t349)) else (laws_FnExactJoinTerms.j2 kj43 t377 t376 true)))))) else (some false))) = some r := H
                      have A64 := Aside0.mk A640
                      clear A640
                      by_cases c65 : t378 < 0
                      · rw [if_pos c65] at H
                        have c65b0 : decide (t378 < 0) = true := decide_eq_true c65
                        clear c65
                        obtain rfl := Option.some.inj H
                        obtain ⟨Ao66, co66, eo66⟩ := Kd.R_slice HO_16.out
                        subst eo66
                        go_wp2_with (first | ((with_reducible refine gate_callee (f := 21) rfl ?_); refine goesL_ (some 97) rfl rfl Try.func21 (by kernel_rfl) rfl #[.slice Ao66 t358.length co66, .int .i64 1] rfl qG ?_; (with_reducible refine (laws_markNodeS.calls kj43 (fun k_ => some k_ = (.slice Ao66 t358.length co66 : Value).ownBlock) (.slice Ao66 t358.length co66) t358 1 t376 t377 w _ ?side1 ?side2 A63.out).mono ?_); (case side1 => repeat (first | (with_reducible first | exact HB.out | apply below_alloc | apply pw_below_drewN | apply below_drew1) | exact HB.out)); (case side2 => exact Kd.R_tight rfl HO_16.out); rintro e w67 ⟨rfl, hy0, hb, hkp⟩; refine ⟨_, rfl, ?_⟩; have n0_ := Aside0.mk (Kd.R_mono (ok' := fun k_ => some k_ ≠ (.slice Ao66 t358.length co66 : Value).ownBlock) (Kd.R_keptB (HO_12.out) hkp (fun k_ hk_ hs_ => (hk_) hs_)) (fun k_ hk_ => hk_.1)); have n1_ := Aside0.mk (Kd.R_reok rfl hy0 (fun k_ e_ => HO_16.out.1 k_ e_)); have n2_ := Aside0.mk (hb); clear HO_12; clear HO_16; clear HB; have HO_12 := n0_; have HO_16 := n1_; have HB := n2_; clear n0_ n1_ n2_; (try clear hb); (try clear hkp); (try clear hy0)) | ((with_reducible refine gate_callee (f := 22) rfl ?_); refine goesL_ (some 100) rfl rfl Try.func22 (by kernel_rfl) rfl #[.slice Ao66 t377.length co66, .int .i64 1] rfl (by (try simp only [List.map_toArray, List.map_cons, List.map_nil]); first | done | (rw [show t377.length = t358.length from (Kd.R_reads' HO_16.out).1.symm] <;> rfl) | rfl | (simp only [List.length_drop, List.length_take]; rfl)) ?_; (with_reducible refine (laws_heldNodeS.calls kj43 _ _ t377 1 t378 _ ?side1 ?side2 A64.out).mono ?_); (case side1 => repeat (first | exact (Kd.R_reads' HO_16.out).2.2 | (with_reducible refine Kd.C_alloc ?_ _) | (with_reducible refine Kd.C_drewN ?_ _) | (with_reducible refine Kd.C_drew ?_))); (case side2 => rw [show t377.length = t358.length from (Kd.R_reads' HO_16.out).1.symm]; exact (Kd.R_reads' HO_16.out).2.1); rintro e w' ⟨rfl, ⟨nd, rfl⟩⟩; refine ⟨_, rfl, ?_⟩))
                        go_ret
                        exact ⟨qE, qB⟩
                      · rw [if_neg c65] at H
                        have c65b0 : decide (t378 < 0) = false := decide_eq_false c65
                        clear c65
                        by_cases c68 : t378 = t376
                        · rw [if_pos c68] at H
                          have c68b0 : (t378 == t376) = true := beq_iff_eq.mpr c68
                          have c68b1 : (t378 != t376) = false := bne_eq_false_iff_eq.mpr c68
                          clear c68
                          replace H := Option.bind_eq_some_iff.mp H
                          obtain ⟨t379, A690, H⟩ := H
                          replace H : ((laws_toNodeS.f kj43 l4).bind fun t382 => ((impl_JoinTerms.f kj43 a0 a1 a2 t379 t382).bind fun bt385 => ((laws_eqNodeS.f kj43 bt385.1 t348).bind fun t389 => (if t389 = true then (laws_FnExactJoinTerms.j2 kj43 t377 t376 (bt385.2 != t349)) else (laws_FnExactJoinTerms.j2 kj43 t377 t376 true))))) = some r := H
                          have A69 := Aside0.mk A690
                          clear A690
                          replace H := Option.bind_eq_some_iff.mp H
                          obtain ⟨t382, A700, H⟩ := H
                          replace H : ((impl_JoinTerms.f kj43 a0 a1 a2 t379 t382).bind fun bt385 => ((laws_eqNodeS.f kj43 bt385.1 t348).bind fun t389 => (if t389 = true then (laws_FnExactJoinTerms.j2 kj43 t377 t376 (bt385.2 != t349)) else (laws_FnExactJoinTerms.j2 kj43 t377 t376 true)))) = some r := H
                          have A70 := Aside0.mk A700
                          clear A700
                          replace H := Option.bind_eq_some_iff.mp H
                          obtain ⟨⟨t385, t388⟩, A710, H⟩ := H
                          replace H : ((laws_eqNodeS.f kj43 t385 t348).bind fun t389 => (if t389 = true then (laws_FnExactJoinTerms.j2 kj43 t377 t376 (t388 != t349)) else (laws_FnExactJoinTerms.j2 kj43 t377 t376 true))) = some r := H
                          have A71 := Aside0.mk A710
                          clear A710
                          have HC72 := Aside0.mk H
                          clear H
                          obtain ⟨Ao73, co73, eo73⟩ := Kd.R_slice HO_16.out
                          subst eo73
                          go_upto_region 32 with (first | ((with_reducible refine gate_callee (f := 21) rfl ?_); refine goesL_ (some 97) rfl rfl Try.func21 (by kernel_rfl) rfl #[.slice Ao73 t358.length co73, .int .i64 1] rfl qG ?_; (with_reducible refine (laws_markNodeS.calls kj43 (fun k_ => some k_ = (.slice Ao73 t358.length co73 : Value).ownBlock) (.slice Ao73 t358.length co73) t358 1 t376 t377 w _ ?side1 ?side2 A63.out).mono ?_); (case side1 => repeat (first | (with_reducible first | exact HB.out | apply below_alloc | apply pw_below_drewN | apply below_drew1) | exact HB.out)); (case side2 => exact Kd.R_tight rfl HO_16.out); rintro e w74 ⟨rfl, hy0, hb, hkp⟩; refine ⟨_, rfl, ?_⟩; have n0_ := Aside0.mk (Kd.R_mono (ok' := fun k_ => some k_ ≠ (.slice Ao73 t358.length co73 : Value).ownBlock) (Kd.R_keptB (HO_12.out) hkp (fun k_ hk_ hs_ => (hk_) hs_)) (fun k_ hk_ => hk_.1)); have n1_ := Aside0.mk (Kd.R_reok rfl hy0 (fun k_ e_ => HO_16.out.1 k_ e_)); have n2_ := Aside0.mk (hb); clear HO_12; clear HO_16; clear HB; have HO_12 := n0_; have HO_16 := n1_; have HB := n2_; clear n0_ n1_ n2_; (try clear hb); (try clear hkp); (try clear hy0)) | ((with_reducible refine gate_callee (f := 22) rfl ?_); refine goesL_ (some 100) rfl rfl Try.func22 (by kernel_rfl) rfl #[.slice Ao73 t377.length co73, .int .i64 1] rfl (by (try simp only [List.map_toArray, List.map_cons, List.map_nil]); first | done | (rw [show t377.length = t358.length from (Kd.R_reads' HO_16.out).1.symm] <;> rfl) | rfl | (simp only [List.length_drop, List.length_take]; rfl)) ?_; (with_reducible refine (laws_heldNodeS.calls kj43 _ _ t377 1 t378 _ ?side1 ?side2 A64.out).mono ?_); (case side1 => repeat (first | exact (Kd.R_reads' HO_16.out).2.2 | (with_reducible refine Kd.C_alloc ?_ _) | (with_reducible refine Kd.C_drewN ?_ _) | (with_reducible refine Kd.C_drew ?_))); (case side2 => rw [show t377.length = t358.length from (Kd.R_reads' HO_16.out).1.symm]; exact (Kd.R_reads' HO_16.out).2.1); rintro e w' ⟨rfl, ⟨nd, rfl⟩⟩; refine ⟨_, rfl, ?_⟩) | ((with_reducible refine gate_callee (f := 12) rfl ?_); refine goesL_ (some 111) rfl rfl Try.func12 (by kernel_rfl) rfl #[.slice A3 l3.length c3] rfl qG ?_; (with_reducible refine (laws_toNodeS.calls kj43 _ _ l3 t379 _ ?side1 ?side2 A69.out).mono ?_); (case side1 => repeat (first | exact (Kd.C_below HR3.out (qB)) | (with_reducible refine Kd.C_alloc ?_ _) | (with_reducible refine Kd.C_drewN ?_ _) | (with_reducible refine Kd.C_drew ?_))); (case side2 => exact HC3.out); rintro e w75 ⟨v380, rfl, ho0, hb⟩; refine ⟨_, rfl, ?_⟩; have n0_ := Aside0.mk (Kd.R_elder' (qR HO_12.out) (Kd.R_base ho0) hb); have n1_ := Aside0.mk (Kd.R_elder' (qR HO_16.out) (Kd.R_base ho0) hb); have n2_ := Aside0.mk (Kd.R_lower (Kd.R_new' (Kd.R_new' ho0 (Kd.R_lt (qR HO_12.out))) (Kd.R_lt (qR HO_16.out))) (below_size (qB))); have n3_ := Aside0.mk (below_step (qB) hb); clear HO_12; clear HO_16; clear HB; have HO_12 := n0_; have HO_16 := n1_; have HO381 := n2_; have HB := n3_; clear n0_ n1_ n2_ n3_; (try clear hb); (try clear hb2); (try clear hk); (try clear hi); (try clear ho0)) | ((with_reducible refine gate_callee (f := 12) rfl ?_); refine goesL_ (some 113) rfl rfl Try.func12 (by kernel_rfl) rfl #[.slice A4 l4.length c4] rfl qG ?_; (with_reducible refine (laws_toNodeS.calls kj43 _ _ l4 t382 _ ?side1 ?side2 A70.out).mono ?_); (case side1 => exact qC (Kd.C_below HR4.out HB.out)); (case side2 => exact HC4.out); rintro e w76 ⟨v383, rfl, ho0, hb⟩; refine ⟨_, rfl, ?_⟩; have n0_ := Aside0.mk (Kd.R_elder' (qR HO_12.out) (Kd.R_base ho0) hb); have n1_ := Aside0.mk (Kd.R_elder' (qR HO_16.out) (Kd.R_base ho0) hb); have n2_ := Aside0.mk (Kd.R_elder' (qR HO381.out) (Kd.R_base ho0) hb); have n3_ := Aside0.mk (Kd.R_lower (Kd.R_new' (Kd.R_new' (Kd.R_new' ho0 (Kd.R_lt (qR HO_12.out))) (Kd.R_lt (qR HO_16.out))) (Kd.R_lt (qR HO381.out))) (below_size (qB))); have n4_ := Aside0.mk (below_step (qB) hb); clear HO_12; clear HO_16; clear HO381; clear HB; have HO_12 := n0_; have HO_16 := n1_; have HO381 := n2_; have HO384 := n3_; have HB := n4_; clear n0_ n1_ n2_ n3_ n4_; (try clear hb); (try clear hb2); (try clear hk); (try clear hi); (try clear ho0); obtain ⟨Ao77, co77, eo77⟩ := Kd.R_slice HO381.out; subst eo77; obtain ⟨Ao78, co78, eo78⟩ := Kd.R_slice HO384.out; subst eo78) | ((with_reducible refine gate_callee (f := 24) rfl ?_); refine goesL_ (some 114) rfl rfl Try.func24 (by kernel_rfl) rfl #[.int .i64 a0, .int .i64 a1, .int .i64 a2, .slice Ao77 t379.length co77, .slice Ao78 t382.length co78] rfl qG ?_; (with_reducible refine (impl_JoinTerms.calls kj43 a0 a1 a2 (fun k_ => some k_ = (.slice Ao77 t379.length co77 : Value).ownBlock) _ _ t379 (fun k_ => some k_ = (.slice Ao78 t382.length co78 : Value).ownBlock) _ _ t382 t385 t388 _ ?side1 ?side2 A71.out).mono ?_); (case side1 => exact Kd.R_V (Kd.R_tight rfl (HO381.out))); (case side2 => exact Kd.R_V (Kd.R_tight rfl (HO384.out))); rintro e w79 ⟨v386, rfl, ho0, hb⟩; refine ⟨_, rfl, ?_⟩; have n0_ := Aside0.mk (Kd.R_elder' (qR HO_12.out) (Kd.R_base ho0) hb); have n1_ := Aside0.mk (Kd.R_elder' (qR HO_16.out) (Kd.R_base ho0) hb); have n2_ := Aside0.mk (Kd.R_elder' (qR HO381.out) (Kd.R_base ho0) hb); have n3_ := Aside0.mk (Kd.R_elder' (qR HO384.out) (Kd.R_base ho0) hb); have n4_ := Aside0.mk (Kd.R_lower (Kd.R_new' (Kd.R_new' (Kd.R_new' (Kd.R_new' (Kd.R_mono (ok' := fun k_ => True) ho0 (fun _ hk_ => trivial)) (Kd.R_lt (qR HO_12.out))) (Kd.R_lt (qR HO_16.out))) (Kd.R_lt (qR HO381.out))) (Kd.R_lt (qR HO384.out))) (below_size (qB))); have n5_ := Aside0.mk (below_step (qB) hb); clear HO_12; clear HO_16; clear HO381; clear HO384; clear HB; have HO_12 := n0_; have HO_16 := n1_; have HO381 := n2_; have HO384 := n3_; have HO387 := n4_; have HB := n5_; clear n0_ n1_ n2_ n3_ n4_ n5_; (try clear hb); (try clear hb2); (try clear hk); (try clear hi); (try clear ho0)))
                          (try simp only [Act.put, List.setIfInBounds_toArray, List.set_cons_zero, List.set_cons_succ])
                          go_cut [125] (fun v125 wc => ∃ (kq : Nat) (x125_71 : Bool), v125 = .bool x125_71 ∧ Aside0 (laws_FnExactJoinTerms.j2 kq t377 t376 x125_71 = some r) ∧ Aside0 (kq ≤ kj43) ∧ Aside0 (Kd.R k47 47 wc w.heap.size (fun _ => True) (.slice Ao73 t358.length co73) t377) ∧ Aside0 (Below w.heap.size w wc))
                          case first =>
                            have H := HC72.out
                            clear HC72
                            replace H := Option.bind_eq_some_iff.mp H
                            obtain ⟨t389, A800, H⟩ := H
                            replace H : (if t389 = true then (laws_FnExactJoinTerms.j2 kj43 t377 t376 (t388 != t349)) else (laws_FnExactJoinTerms.j2 kj43 t377 t376 true)) = some r := H
                            have A80 := Aside0.mk A800
                            clear A800
                            by_cases c81 : t389 = true
                            · subst c81
                              have H1 : (laws_FnExactJoinTerms.j2 kj43 t377 t376 (t388 != t349)) = some r := by rw [if_pos rfl] at H; exact H
                              clear H
                              have H := H1
                              clear H1
                              have H' := Aside0.mk H
                              clear H
                              obtain ⟨Ao82, co82, eo82⟩ := Kd.R_slice HO387.out
                              subst eo82
                              obtain ⟨Ao83, co83, eo83⟩ := Kd.R_slice HO_12.out
                              subst eo83
                              go_wp2_with (first | ((with_reducible refine gate_callee (f := 14) rfl ?_); refine goesL_ (some 119) rfl rfl Try.func14 (by kernel_rfl) rfl #[.slice Ao82 t385.length co82, .slice Ao83 t348.length co83] rfl qG ?_; (with_reducible refine (laws_eqNodeS.calls kj43 _ _ t385 _ _ t348 true _ ?side1 ?side2 ?side3 ?side4 A80.out).mono ?_); (case side1 => repeat (first | exact (Kd.R_reads' HO387.out).2.2 | (with_reducible refine Kd.C_alloc ?_ _) | (with_reducible refine Kd.C_drewN ?_ _) | (with_reducible refine Kd.C_drew ?_))); (case side2 => exact (Kd.R_reads' HO387.out).2.1); (case side3 => repeat (first | exact (Kd.R_reads' HO_12.out).2.2 | (with_reducible refine Kd.C_alloc ?_ _) | (with_reducible refine Kd.C_drewN ?_ _) | (with_reducible refine Kd.C_drew ?_))); (case side4 => exact (Kd.R_reads' HO_12.out).2.1); rintro e w84 ⟨rfl, hb⟩; refine ⟨_, rfl, ?_⟩; have n0_ := Aside0.mk (Kd.R_below (qR HO_12.out) hb); have n1_ := Aside0.mk (Kd.R_below (qR HO_16.out) hb); have n2_ := Aside0.mk (Kd.R_below (qR HO381.out) hb); have n3_ := Aside0.mk (Kd.R_below (qR HO384.out) hb); have n4_ := Aside0.mk (Kd.R_below (qR HO387.out) hb); have n5_ := Aside0.mk (below_step (qB) hb); clear HO_12; clear HO_16; clear HO381; clear HO384; clear HO387; clear HB; have HO_12 := n0_; have HO_16 := n1_; have HO381 := n2_; have HO384 := n3_; have HO387 := n4_; have HB := n5_; clear n0_ n1_ n2_ n3_ n4_ n5_; (try clear hb); (try clear hb2); (try clear hk); (try clear hi)))
                              go_meet
                              case rel => exact ⟨_, ((t388 != t349)), qS, H', ⟨by have := HJ15.out; have := HJ43.out; first | omega | exact Nat.le_refl _⟩, ⟨by (with_reducible repeat (first | apply Kd.R_alloc | apply Kd.R_drewN | apply Kd.R_drew)); exact Kd.R_mono HO_16.out (fun _ hk => trivial)⟩, ⟨qB⟩⟩
                            · replace c81 := Bool.eq_false_iff.mpr c81
                              subst c81
                              have H1 : (laws_FnExactJoinTerms.j2 kj43 t377 t376 true) = some r := by rw [if_neg (show ¬ (false = true) by decide)] at H; exact H
                              clear H
                              have H := H1
                              clear H1
                              have H' := Aside0.mk H
                              clear H
                              obtain ⟨Ao85, co85, eo85⟩ := Kd.R_slice HO387.out
                              subst eo85
                              obtain ⟨Ao86, co86, eo86⟩ := Kd.R_slice HO_12.out
                              subst eo86
                              go_wp2_with (first | ((with_reducible refine gate_callee (f := 14) rfl ?_); refine goesL_ (some 119) rfl rfl Try.func14 (by kernel_rfl) rfl #[.slice Ao85 t385.length co85, .slice Ao86 t348.length co86] rfl qG ?_; (with_reducible refine (laws_eqNodeS.calls kj43 _ _ t385 _ _ t348 false _ ?side1 ?side2 ?side3 ?side4 A80.out).mono ?_); (case side1 => repeat (first | exact (Kd.R_reads' HO387.out).2.2 | (with_reducible refine Kd.C_alloc ?_ _) | (with_reducible refine Kd.C_drewN ?_ _) | (with_reducible refine Kd.C_drew ?_))); (case side2 => exact (Kd.R_reads' HO387.out).2.1); (case side3 => repeat (first | exact (Kd.R_reads' HO_12.out).2.2 | (with_reducible refine Kd.C_alloc ?_ _) | (with_reducible refine Kd.C_drewN ?_ _) | (with_reducible refine Kd.C_drew ?_))); (case side4 => exact (Kd.R_reads' HO_12.out).2.1); rintro e w87 ⟨rfl, hb⟩; refine ⟨_, rfl, ?_⟩; have n0_ := Aside0.mk (Kd.R_below (qR HO_12.out) hb); have n1_ := Aside0.mk (Kd.R_below (qR HO_16.out) hb); have n2_ := Aside0.mk (Kd.R_below (qR HO381.out) hb); have n3_ := Aside0.mk (Kd.R_below (qR HO384.out) hb); have n4_ := Aside0.mk (Kd.R_below (qR HO387.out) hb); have n5_ := Aside0.mk (below_step (qB) hb); clear HO_12; clear HO_16; clear HO381; clear HO384; clear HO387; clear HB; have HO_12 := n0_; have HO_16 := n1_; have HO381 := n2_; have HO384 := n3_; have HO387 := n4_; have HB := n5_; clear n0_ n1_ n2_ n3_ n4_ n5_; (try clear hb); (try clear hb2); (try clear hk); (try clear hi)))
                              go_meet
                              case rel => exact ⟨_, (true), qS, H', ⟨by have := HJ15.out; have := HJ43.out; first | omega | exact Nat.le_refl _⟩, ⟨by (with_reducible repeat (first | apply Kd.R_alloc | apply Kd.R_drewN | apply Kd.R_drew)); exact Kd.R_mono HO_16.out (fun _ hk => trivial)⟩, ⟨qB⟩⟩
                          case rest =>
                            clear HC72
                            try clear c1
                            try clear c2
                            try clear p2
                            try clear c3
                            try clear c4
                            try clear c5
                            try clear c6
                            try clear c7
                            try clear c7b0
                            try clear c8
                            try clear c9
                            try clear c9b0
                            try clear c10
                            try clear c12
                            try clear c14
                            try clear c21
                            try clear c22
                            try clear c23
                            try clear c24
                            try clear c28
                            try clear c35
                            try clear c38
                            try clear c41
                            try clear c53
                            try clear c53b0
                            try clear c55
                            try clear c62
                            try clear c65
                            try clear c65b0
                            try clear c68
                            try clear c68b0
                            try clear c68b1
                            try clear c81
                            try clear p2
                            obtain ⟨kq, x125_71, rfl, HA, HJ71, HO_16, HB⟩ := hcut
                            have hl16_71 := (Kd.R_reads' HO_16.out).1
                            rw [hl16_71] at HO_16
                            (try simp only [hl16_71])
                            cases kq with
                            | zero => exact absurd HA.out (by simp [laws_FnExactJoinTerms.j2])
                            | succ kj71 =>
                              have H := HA.out
                              clear HA
                              simp only [laws_FnExactJoinTerms.j2] at H
                              by_cases c88 : x125_71 = true
                              · subst c88
                                have H1 : (some false) = some r := by rw [if_pos rfl] at H; exact H
                                clear H
                                have H := H1
                                clear H1
                                obtain rfl := Option.some.inj H
                                go_wp2
                                go_ret
                                exact ⟨qE, qB⟩
                              · replace c88 := Bool.eq_false_iff.mpr c88
                                subst c88
                                have H1 : ((laws_heldNodeS.f kj71 t377 1).bind fun t390 => (if t390 < 0 then (some false) else (if t390 = t376 then (some true) else (some false)))) = some r := by rw [if_neg (show ¬ (false = true) by decide)] at H; exact H
                                clear H
                                have H := H1
                                clear H1
                                replace H := Option.bind_eq_some_iff.mp H
                                obtain ⟨t390, A890, H⟩ := H
                                replace H : (if t390 < 0 then (some false) else (if t390 = t376 then (some true) else (some false))) = some r := H
                                have A89 := Aside0.mk A890
                                clear A890
                                by_cases c90 : t390 < 0
                                · rw [if_pos c90] at H
                                  have c90b0 : decide (t390 < 0) = true := decide_eq_true c90
                                  clear c90
                                  obtain rfl := Option.some.inj H
                                  go_wp2_with (first | ((with_reducible refine gate_callee (f := 22) rfl ?_); refine goesL_ (some 128) rfl rfl Try.func22 (by kernel_rfl) rfl #[.slice Ao73 t377.length co73, .int .i64 1] rfl qG ?_; (with_reducible refine (laws_heldNodeS.calls kj71 _ _ t377 1 t390 _ ?side1 ?side2 A89.out).mono ?_); (case side1 => repeat (first | exact (Kd.R_reads' HO_16.out).2.2 | (with_reducible refine Kd.C_alloc ?_ _) | (with_reducible refine Kd.C_drewN ?_ _) | (with_reducible refine Kd.C_drew ?_))); (case side2 => exact (Kd.R_reads' HO_16.out).2.1); rintro e w' ⟨rfl, ⟨nd, rfl⟩⟩; refine ⟨_, rfl, ?_⟩))
                                  go_ret
                                  exact ⟨qE, qB⟩
                                · rw [if_neg c90] at H
                                  have c90b0 : decide (t390 < 0) = false := decide_eq_false c90
                                  clear c90
                                  by_cases c91 : t390 = t376
                                  · rw [if_pos c91] at H
                                    have c91b0 : (t390 == t376) = true := beq_iff_eq.mpr c91
                                    have c91b1 : (t390 != t376) = false := bne_eq_false_iff_eq.mpr c91
                                    clear c91
                                    obtain rfl := Option.some.inj H
                                    go_wp2_with (first | ((with_reducible refine gate_callee (f := 22) rfl ?_); refine goesL_ (some 128) rfl rfl Try.func22 (by kernel_rfl) rfl #[.slice Ao73 t377.length co73, .int .i64 1] rfl qG ?_; (with_reducible refine (laws_heldNodeS.calls kj71 _ _ t377 1 t390 _ ?side1 ?side2 A89.out).mono ?_); (case side1 => repeat (first | exact (Kd.R_reads' HO_16.out).2.2 | (with_reducible refine Kd.C_alloc ?_ _) | (with_reducible refine Kd.C_drewN ?_ _) | (with_reducible refine Kd.C_drew ?_))); (case side2 => exact (Kd.R_reads' HO_16.out).2.1); rintro e w' ⟨rfl, ⟨nd, rfl⟩⟩; refine ⟨_, rfl, ?_⟩))
                                    go_ret
                                    exact ⟨qE, qB⟩
                                  · rw [if_neg c91] at H
                                    have c91b0 : (t390 == t376) = false := beq_eq_false_iff_ne.mpr c91
                                    have c91b1 : (t390 != t376) = true := bne_iff_ne.mpr c91
                                    obtain rfl := Option.some.inj H
                                    go_wp2_with (first | ((with_reducible refine gate_callee (f := 22) rfl ?_); refine goesL_ (some 128) rfl rfl Try.func22 (by kernel_rfl) rfl #[.slice Ao73 t377.length co73, .int .i64 1] rfl qG ?_; (with_reducible refine (laws_heldNodeS.calls kj71 _ _ t377 1 t390 _ ?side1 ?side2 A89.out).mono ?_); (case side1 => repeat (first | exact (Kd.R_reads' HO_16.out).2.2 | (with_reducible refine Kd.C_alloc ?_ _) | (with_reducible refine Kd.C_drewN ?_ _) | (with_reducible refine Kd.C_drew ?_))); (case side2 => exact (Kd.R_reads' HO_16.out).2.1); rintro e w' ⟨rfl, ⟨nd, rfl⟩⟩; refine ⟨_, rfl, ?_⟩))
                                    go_ret
                                    exact ⟨qE, qB⟩
                        · rw [if_neg c68] at H
                          have c68b0 : (t378 == t376) = false := beq_eq_false_iff_ne.mpr c68
                          have c68b1 : (t378 != t376) = true := bne_iff_ne.mpr c68
                          obtain rfl := Option.some.inj H
                          obtain ⟨Ao92, co92, eo92⟩ := Kd.R_slice HO_16.out
                          subst eo92
                          go_wp2_with (first | ((with_reducible refine gate_callee (f := 21) rfl ?_); refine goesL_ (some 97) rfl rfl Try.func21 (by kernel_rfl) rfl #[.slice Ao92 t358.length co92, .int .i64 1] rfl qG ?_; (with_reducible refine (laws_markNodeS.calls kj43 (fun k_ => some k_ = (.slice Ao92 t358.length co92 : Value).ownBlock) (.slice Ao92 t358.length co92) t358 1 t376 t377 w _ ?side1 ?side2 A63.out).mono ?_); (case side1 => repeat (first | (with_reducible first | exact HB.out | apply below_alloc | apply pw_below_drewN | apply below_drew1) | exact HB.out)); (case side2 => exact Kd.R_tight rfl HO_16.out); rintro e w93 ⟨rfl, hy0, hb, hkp⟩; refine ⟨_, rfl, ?_⟩; have n0_ := Aside0.mk (Kd.R_mono (ok' := fun k_ => some k_ ≠ (.slice Ao92 t358.length co92 : Value).ownBlock) (Kd.R_keptB (HO_12.out) hkp (fun k_ hk_ hs_ => (hk_) hs_)) (fun k_ hk_ => hk_.1)); have n1_ := Aside0.mk (Kd.R_reok rfl hy0 (fun k_ e_ => HO_16.out.1 k_ e_)); have n2_ := Aside0.mk (hb); clear HO_12; clear HO_16; clear HB; have HO_12 := n0_; have HO_16 := n1_; have HB := n2_; clear n0_ n1_ n2_; (try clear hb); (try clear hkp); (try clear hy0)) | ((with_reducible refine gate_callee (f := 22) rfl ?_); refine goesL_ (some 100) rfl rfl Try.func22 (by kernel_rfl) rfl #[.slice Ao92 t377.length co92, .int .i64 1] rfl (by (try simp only [List.map_toArray, List.map_cons, List.map_nil]); first | done | (rw [show t377.length = t358.length from (Kd.R_reads' HO_16.out).1.symm] <;> rfl) | rfl | (simp only [List.length_drop, List.length_take]; rfl)) ?_; (with_reducible refine (laws_heldNodeS.calls kj43 _ _ t377 1 t378 _ ?side1 ?side2 A64.out).mono ?_); (case side1 => repeat (first | exact (Kd.R_reads' HO_16.out).2.2 | (with_reducible refine Kd.C_alloc ?_ _) | (with_reducible refine Kd.C_drewN ?_ _) | (with_reducible refine Kd.C_drew ?_))); (case side2 => rw [show t377.length = t358.length from (Kd.R_reads' HO_16.out).1.symm]; exact (Kd.R_reads' HO_16.out).2.1); rintro e w' ⟨rfl, ⟨nd, rfl⟩⟩; refine ⟨_, rfl, ?_⟩))
                          go_ret
                          exact ⟨qE, qB⟩
              · replace c41 := Bool.eq_false_iff.mpr c41
                subst c41
                have H1 : (some false) = some r := by rw [if_neg (show ¬ (false = true) by decide)] at H; exact H
                clear H
                have H := H1
                clear H1
                obtain rfl := Option.some.inj H
                go_wp2_with (first | ((with_reducible refine gate_callee (f := 12) rfl ?_); refine goesL_ (some 68) rfl rfl Try.func12 (by kernel_rfl) rfl #[.slice A3 l3.length c3] rfl qG ?_; (with_reducible refine (laws_toNodeS.calls kj15 _ _ l3 t363 _ ?side1 ?side2 A36.out).mono ?_); (case side1 => exact qC (Kd.C_below HR3.out HB.out)); (case side2 => exact HC3.out); rintro e w94 ⟨v364, rfl, ho0, hb⟩; refine ⟨_, rfl, ?_⟩; have n0_ := Aside0.mk (Kd.R_elder' (qR HO_12.out) (Kd.R_base ho0) hb); have n1_ := Aside0.mk (Kd.R_elder' (qR HO_14.out) (Kd.R_base ho0) hb); have n2_ := Aside0.mk (Kd.R_elder' (qR HO_15.out) (Kd.R_base ho0) hb); have n3_ := Aside0.mk (Kd.R_elder' (qR HO_16.out) (Kd.R_base ho0) hb); have n4_ := Aside0.mk (Kd.R_lower (Kd.R_new' (Kd.R_new' (Kd.R_new' (Kd.R_new' ho0 (Kd.R_lt (qR HO_12.out))) (Kd.R_lt (qR HO_14.out))) (Kd.R_lt (qR HO_15.out))) (Kd.R_lt (qR HO_16.out))) (below_size (qB))); have n5_ := Aside0.mk (below_step (qB) hb); clear HO_12; clear HO_14; clear HO_15; clear HO_16; clear HB; have HO_12 := n0_; have HO_14 := n1_; have HO_15 := n2_; have HO_16 := n3_; have HO365 := n4_; have HB := n5_; clear n0_ n1_ n2_ n3_ n4_ n5_; (try clear hb); (try clear hb2); (try clear hk); (try clear hi); (try clear ho0); obtain ⟨Ao95, co95, eo95⟩ := Kd.R_slice HO365.out; subst eo95) | ((with_reducible refine gate_callee (f := 14) rfl ?_); refine goesL_ (some 69) rfl rfl Try.func14 (by kernel_rfl) rfl #[.slice Ao24 t352.length co24, .slice Ao95 t363.length co95] rfl qG ?_; (with_reducible refine (laws_eqNodeS.calls kj15 _ _ t352 _ _ t363 true _ ?side1 ?side2 ?side3 ?side4 A37.out).mono ?_); (case side1 => repeat (first | exact (Kd.R_reads' HO_14.out).2.2 | (with_reducible refine Kd.C_alloc ?_ _) | (with_reducible refine Kd.C_drewN ?_ _) | (with_reducible refine Kd.C_drew ?_))); (case side2 => exact (Kd.R_reads' HO_14.out).2.1); (case side3 => repeat (first | exact (Kd.R_reads' HO365.out).2.2 | (with_reducible refine Kd.C_alloc ?_ _) | (with_reducible refine Kd.C_drewN ?_ _) | (with_reducible refine Kd.C_drew ?_))); (case side4 => exact (Kd.R_reads' HO365.out).2.1); rintro e w96 ⟨rfl, hb⟩; refine ⟨_, rfl, ?_⟩; have n0_ := Aside0.mk (Kd.R_below (qR HO_12.out) hb); have n1_ := Aside0.mk (Kd.R_below (qR HO_14.out) hb); have n2_ := Aside0.mk (Kd.R_below (qR HO_15.out) hb); have n3_ := Aside0.mk (Kd.R_below (qR HO_16.out) hb); have n4_ := Aside0.mk (Kd.R_below (qR HO365.out) hb); have n5_ := Aside0.mk (below_step (qB) hb); clear HO_12; clear HO_14; clear HO_15; clear HO_16; clear HO365; clear HB; have HO_12 := n0_; have HO_14 := n1_; have HO_15 := n2_; have HO_16 := n3_; have HO365 := n4_; have HB := n5_; clear n0_ n1_ n2_ n3_ n4_ n5_; (try clear hb); (try clear hb2); (try clear hk); (try clear hi)) | ((with_reducible refine gate_callee (f := 12) rfl ?_); refine goesL_ (some 73) rfl rfl Try.func12 (by kernel_rfl) rfl #[.slice A4 l4.length c4] rfl qG ?_; (with_reducible refine (laws_toNodeS.calls kj15 _ _ l4 t367 _ ?side1 ?side2 A39.out).mono ?_); (case side1 => exact qC (Kd.C_below HR4.out HB.out)); (case side2 => exact HC4.out); rintro e w97 ⟨v368, rfl, ho0, hb⟩; refine ⟨_, rfl, ?_⟩; have n0_ := Aside0.mk (Kd.R_elder' (qR HO_12.out) (Kd.R_base ho0) hb); have n1_ := Aside0.mk (Kd.R_elder' (qR HO_14.out) (Kd.R_base ho0) hb); have n2_ := Aside0.mk (Kd.R_elder' (qR HO_15.out) (Kd.R_base ho0) hb); have n3_ := Aside0.mk (Kd.R_elder' (qR HO_16.out) (Kd.R_base ho0) hb); have n4_ := Aside0.mk (Kd.R_elder' (qR HO365.out) (Kd.R_base ho0) hb); have n5_ := Aside0.mk (Kd.R_lower (Kd.R_new' (Kd.R_new' (Kd.R_new' (Kd.R_new' (Kd.R_new' ho0 (Kd.R_lt (qR HO_12.out))) (Kd.R_lt (qR HO_14.out))) (Kd.R_lt (qR HO_15.out))) (Kd.R_lt (qR HO_16.out))) (Kd.R_lt (qR HO365.out))) (below_size (qB))); have n6_ := Aside0.mk (below_step (qB) hb); clear HO_12; clear HO_14; clear HO_15; clear HO_16; clear HO365; clear HB; have HO_12 := n0_; have HO_14 := n1_; have HO_15 := n2_; have HO_16 := n3_; have HO365 := n4_; have HO369 := n5_; have HB := n6_; clear n0_ n1_ n2_ n3_ n4_ n5_ n6_; (try clear hb); (try clear hb2); (try clear hk); (try clear hi); (try clear ho0); obtain ⟨Ao98, co98, eo98⟩ := Kd.R_slice HO369.out; subst eo98) | ((with_reducible refine gate_callee (f := 14) rfl ?_); refine goesL_ (some 74) rfl rfl Try.func14 (by kernel_rfl) rfl #[.slice Ao25 t355.length co25, .slice Ao98 t367.length co98] rfl qG ?_; (with_reducible refine (laws_eqNodeS.calls kj15 _ _ t355 _ _ t367 false _ ?side1 ?side2 ?side3 ?side4 A40.out).mono ?_); (case side1 => repeat (first | exact (Kd.R_reads' HO_15.out).2.2 | (with_reducible refine Kd.C_alloc ?_ _) | (with_reducible refine Kd.C_drewN ?_ _) | (with_reducible refine Kd.C_drew ?_))); (case side2 => exact (Kd.R_reads' HO_15.out).2.1); (case side3 => repeat (first | exact (Kd.R_reads' HO369.out).2.2 | (with_reducible refine Kd.C_alloc ?_ _) | (with_reducible refine Kd.C_drewN ?_ _) | (with_reducible refine Kd.C_drew ?_))); (case side4 => exact (Kd.R_reads' HO369.out).2.1); rintro e w99 ⟨rfl, hb⟩; refine ⟨_, rfl, ?_⟩; have n0_ := Aside0.mk (Kd.R_below (qR HO_12.out) hb); have n1_ := Aside0.mk (Kd.R_below (qR HO_14.out) hb); have n2_ := Aside0.mk (Kd.R_below (qR HO_15.out) hb); have n3_ := Aside0.mk (Kd.R_below (qR HO_16.out) hb); have n4_ := Aside0.mk (Kd.R_below (qR HO365.out) hb); have n5_ := Aside0.mk (Kd.R_below (qR HO369.out) hb); have n6_ := Aside0.mk (below_step (qB) hb); clear HO_12; clear HO_14; clear HO_15; clear HO_16; clear HO365; clear HO369; clear HB; have HO_12 := n0_; have HO_14 := n1_; have HO_15 := n2_; have HO_16 := n3_; have HO365 := n4_; have HO369 := n5_; have HB := n6_; clear n0_ n1_ n2_ n3_ n4_ n5_ n6_; (try clear hb); (try clear hb2); (try clear hk); (try clear hi)))
                go_ret
                exact ⟨qE, qB⟩
            · replace c38 := Bool.eq_false_iff.mpr c38
              subst c38
              have H1 : (some false) = some r := by rw [if_neg (show ¬ (false = true) by decide)] at H; exact H
              clear H
              have H := H1
              clear H1
              obtain rfl := Option.some.inj H
              go_wp2_with (first | ((with_reducible refine gate_callee (f := 12) rfl ?_); refine goesL_ (some 68) rfl rfl Try.func12 (by kernel_rfl) rfl #[.slice A3 l3.length c3] rfl qG ?_; (with_reducible refine (laws_toNodeS.calls kj15 _ _ l3 t363 _ ?side1 ?side2 A36.out).mono ?_); (case side1 => exact qC (Kd.C_below HR3.out HB.out)); (case side2 => exact HC3.out); rintro e w100 ⟨v364, rfl, ho0, hb⟩; refine ⟨_, rfl, ?_⟩; have n0_ := Aside0.mk (Kd.R_elder' (qR HO_12.out) (Kd.R_base ho0) hb); have n1_ := Aside0.mk (Kd.R_elder' (qR HO_14.out) (Kd.R_base ho0) hb); have n2_ := Aside0.mk (Kd.R_elder' (qR HO_15.out) (Kd.R_base ho0) hb); have n3_ := Aside0.mk (Kd.R_elder' (qR HO_16.out) (Kd.R_base ho0) hb); have n4_ := Aside0.mk (Kd.R_lower (Kd.R_new' (Kd.R_new' (Kd.R_new' (Kd.R_new' ho0 (Kd.R_lt (qR HO_12.out))) (Kd.R_lt (qR HO_14.out))) (Kd.R_lt (qR HO_15.out))) (Kd.R_lt (qR HO_16.out))) (below_size (qB))); have n5_ := Aside0.mk (below_step (qB) hb); clear HO_12; clear HO_14; clear HO_15; clear HO_16; clear HB; have HO_12 := n0_; have HO_14 := n1_; have HO_15 := n2_; have HO_16 := n3_; have HO365 := n4_; have HB := n5_; clear n0_ n1_ n2_ n3_ n4_ n5_; (try clear hb); (try clear hb2); (try clear hk); (try clear hi); (try clear ho0); obtain ⟨Ao101, co101, eo101⟩ := Kd.R_slice HO365.out; subst eo101) | ((with_reducible refine gate_callee (f := 14) rfl ?_); refine goesL_ (some 69) rfl rfl Try.func14 (by kernel_rfl) rfl #[.slice Ao24 t352.length co24, .slice Ao101 t363.length co101] rfl qG ?_; (with_reducible refine (laws_eqNodeS.calls kj15 _ _ t352 _ _ t363 false _ ?side1 ?side2 ?side3 ?side4 A37.out).mono ?_); (case side1 => repeat (first | exact (Kd.R_reads' HO_14.out).2.2 | (with_reducible refine Kd.C_alloc ?_ _) | (with_reducible refine Kd.C_drewN ?_ _) | (with_reducible refine Kd.C_drew ?_))); (case side2 => exact (Kd.R_reads' HO_14.out).2.1); (case side3 => repeat (first | exact (Kd.R_reads' HO365.out).2.2 | (with_reducible refine Kd.C_alloc ?_ _) | (with_reducible refine Kd.C_drewN ?_ _) | (with_reducible refine Kd.C_drew ?_))); (case side4 => exact (Kd.R_reads' HO365.out).2.1); rintro e w102 ⟨rfl, hb⟩; refine ⟨_, rfl, ?_⟩; have n0_ := Aside0.mk (Kd.R_below (qR HO_12.out) hb); have n1_ := Aside0.mk (Kd.R_below (qR HO_14.out) hb); have n2_ := Aside0.mk (Kd.R_below (qR HO_15.out) hb); have n3_ := Aside0.mk (Kd.R_below (qR HO_16.out) hb); have n4_ := Aside0.mk (Kd.R_below (qR HO365.out) hb); have n5_ := Aside0.mk (below_step (qB) hb); clear HO_12; clear HO_14; clear HO_15; clear HO_16; clear HO365; clear HB; have HO_12 := n0_; have HO_14 := n1_; have HO_15 := n2_; have HO_16 := n3_; have HO365 := n4_; have HB := n5_; clear n0_ n1_ n2_ n3_ n4_ n5_; (try clear hb); (try clear hb2); (try clear hk); (try clear hi)))
              go_ret
              exact ⟨qE, qB⟩
/-- THE PURE STATEMENT of laws_FnExactJoinTerms. -/
def laws_FnExactJoinTerms.Pure : Prop := ∀ (a0 : Int) (a1 : Int) (a2 : Int) (l3 : List (S49)) (l4 : List (S49)), (Lit.int .i64 a0).wf = true → (Lit.int .i64 a1).wf = true → (Lit.int .i64 a2).wf = true → ((l3).length ≤ maxLen ∧ ∀ y ∈ l3, wf49 y) → ((l4).length ≤ maxLen ∧ ∀ y ∈ l4, wf49 y) → ∃ k, laws_FnExactJoinTerms.f k a0 a1 a2 l3 l4 = some true
theorem laws_FnExactJoinTerms.walk (P : laws_FnExactJoinTerms.Pure) (a0 : Int) (a1 : Int) (a2 : Int) (A3 : Option Addr) (c3 : Nat) (l3 : List (S49)) (A4 : Option Addr) (c4 : Nat) (l4 : List (S49)) (w : World) (hr3 : Kd.C k49 w A3 l3.length l3) (hc3 : l3.length ≤ c3) (hr4 : Kd.C k49 w A4 l4.length l4) (hc4 : l4.length ≤ c4) (w0 : (Lit.int .i64 a0).wf = true) (w1 : (Lit.int .i64 a1).wf = true) (w2 : (Lit.int .i64 a2).wf = true) (w3 : ((l3).length ≤ maxLen ∧ ∀ y ∈ l3, wf49 y)) (w4 : ((l4).length ≤ maxLen ∧ ∀ y ∈ l4, wf49 y)) :
    Calls Try.prog 7 #[.int .i64 a0, .int .i64 a1, .int .i64 a2, .slice A3 l3.length c3, .slice A4 l4.length c4] w fun e w' => e = .returned (.bool true) ∧ Below w.heap.size w w' := by
  obtain ⟨k, h⟩ := P a0 a1 a2 l3 l4 w0 w1 w2 w3 w4
  refine (laws_FnExactJoinTerms.calls k a0 a1 a2 A3 c3 l3 A4 c4 l4 true w hr3 hc3 hr4 hc4 h).mono ?_
  rintro e w' ⟨rfl, hd⟩
  exact ⟨rfl, hd⟩

end Go.Proofs.Ythageckjjbgonaa.X
