/- Go functions as Lean functions, each with the proof that its call comes to just its answer. Conditions: the arguments are of their kinds. -/
import Derived.Test.YtckdgmbmjfhodaaX0
import Derived.Test.YtckdgmbmjfhodaaX1
import Derived.Test.YtckdgmbmjfhodaaX6
import Derived.Test.YtckdgmbmjfhodaaX7
import Derived.Test.YtckdgmbmjfhodaaX12
import Derived.Test.YtckdgmbmjfhodaaX15
import Derived.Test.YtckdgmbmjfhodaaX18
import Derived.Test.YtckdgmbmjfhodaaXO
namespace Go.Proofs.Ytckdgmbmjfhodaa.X
open Go.RowKit Go.Proofs.YtckdgmbmjfhodaaW.PrintWords Go.Proofs.YtckdgmbmjfhodaaW.PrintLast Go.Proofs.YtckdgmbmjfhodaaW.PrintMore
attribute [local go_sem] max2_int min2_int max_two min_two max_three min_three max_four min_four   -- for this text's walks alone
set_option linter.unusedVariables false
set_option linter.unusedSimpArgs false

/-! ### laws_FnExactPutAll: function 3 -/
mutual
def laws_FnExactPutAll.j0 : Nat → Int → Int → List (S54) → List (List (S54)) → List (S52) → Bool → List (S52) → List (List (S52)) → List (S52) → Bool → Bool → Option (Bool)
 | 0, _, _, _, _, _, _, _, _, _, _, _ => none
 | k + 1, x0, x1, x2, x3, x10, x11, x12, x13, x14, x15, x61 => if x61 = true then (some false) else ((laws_toNodeS.f k x2).bind fun t252 => ((laws_eqNodeS.f k x12 t252).bind fun t255 => (if t255 = true then ((laws_toNodeSS.f k x3).bind fun t256 => ((laws_eqNodeSS.f k x13 t256).bind fun t259 => (if t259 = true then ((laws_markNodeS.f k x12 1).bind fun bt260 => ((laws_markNodeSS.f x13 bt260.1).bind fun t262 => (if t262 < 0 then (laws_FnExactPutAll.j1 k x0 x1 x2 x3 x10 x11 x14 true) else ((laws_eqNodeS.f k x14 x10).bind fun t263 => (if t263 = true then (laws_FnExactPutAll.j1 k x0 x1 x2 x3 x10 x11 x14 (x15 != x11)) else (laws_FnExactPutAll.j1 k x0 x1 x2 x3 x10 x11 x14 true)))))) else (some false)))) else (some false))))
def laws_FnExactPutAll.j1 : Nat → Int → Int → List (S54) → List (List (S54)) → List (S52) → Bool → List (S52) → Bool → Option (Bool)
 | 0, _, _, _, _, _, _, _, _ => none
 | k + 1, x0, x1, x2, x3, x10, x11, x14, x90 => if x90 = true then (some false) else ((laws_markNodeS.f k x14 1).bind fun bt264 => ((laws_heldNodeS.f k bt264.2 1).bind fun t266 => (if t266 < 0 then (some false) else (if t266 = bt264.1 then ((laws_toNodeS.f k x2).bind fun t267 => ((laws_toNodeSS.f k x3).bind fun t270 => ((impl_PutAll.f k x0 x1 t267 t270).bind fun bt273 => ((laws_eqNodeS.f k bt273.1 x10).bind fun t277 => (if t277 = true then (laws_FnExactPutAll.j2 k bt264.2 bt264.1 (bt273.2 != x11)) else (laws_FnExactPutAll.j2 k bt264.2 bt264.1 true)))))) else (some false)))))
def laws_FnExactPutAll.j2 : Nat → List (S52) → Int → Bool → Option (Bool)
 | 0, _, _, _ => none
 | k + 1, x14, x17, x120 => if x120 = true then (some false) else ((laws_heldNodeS.f k x14 1).bind fun t278 => (if t278 < 0 then (some false) else (if t278 = x17 then (some true) else (some false))))
end
def laws_FnExactPutAll.f (k : Nat) (a0 : Int) (a1 : Int) (l2 : List (S54)) (l3 : List (List (S54))) : Option (Bool) := (laws_szNodeS.f l2 1048576).bind fun t229 => (if t229 < 0 then (some true) else ((laws_szNodeSS.f k l3 t229).bind fun t230 => (if t230 < 0 then (some true) else ((laws_toNodeS.f k l2).bind fun t231 => ((laws_toNodeSS.f k l3).bind fun t234 => ((spec_PutAll.f k a0 a1 t231 t234).bind fun bt237 => ((laws_toNodeS.f k l2).bind fun t241 => ((laws_toNodeSS.f k l3).bind fun t244 => ((impl_PutAll.f k a0 a1 t241 t244).bind fun bt247 => ((laws_eqNodeS.f k bt247.1 bt237.1).bind fun t251 => (if t251 = true then (laws_FnExactPutAll.j0 k a0 a1 l2 l3 bt237.1 bt237.2 t241 t244 bt247.1 bt247.2 (bt247.2 != bt237.2)) else (laws_FnExactPutAll.j0 k a0 a1 l2 l3 bt237.1 bt237.2 t241 t244 bt247.1 bt247.2 true))))))))))))
theorem laws_FnExactPutAll.mono_l : ∀ k, (∀ y0 y1 y2 y3 y4 y5 y6 y7 y8 y9 y10, LeO (laws_FnExactPutAll.j0 k y0 y1 y2 y3 y4 y5 y6 y7 y8 y9 y10) (laws_FnExactPutAll.j0 (k + 1) y0 y1 y2 y3 y4 y5 y6 y7 y8 y9 y10)) ∧ (∀ y0 y1 y2 y3 y4 y5 y6 y7, LeO (laws_FnExactPutAll.j1 k y0 y1 y2 y3 y4 y5 y6 y7) (laws_FnExactPutAll.j1 (k + 1) y0 y1 y2 y3 y4 y5 y6 y7)) ∧ (∀ y0 y1 y2, LeO (laws_FnExactPutAll.j2 k y0 y1 y2) (laws_FnExactPutAll.j2 (k + 1) y0 y1 y2))
 | 0 => ⟨fun _ _ _ _ _ _ _ _ _ _ _ r h => by simp [laws_FnExactPutAll.j0] at h, fun _ _ _ _ _ _ _ _ r h => by simp [laws_FnExactPutAll.j1] at h, fun _ _ _ r h => by simp [laws_FnExactPutAll.j2] at h⟩
 | k + 1 => by
  obtain ⟨ih0, ih1, ih2⟩ := laws_FnExactPutAll.mono_l k
  refine ⟨?_, ?_, ?_⟩
  ·intro y0 y1 y2 y3 y4 y5 y6 y7 y8 y9 y10
   unfold laws_FnExactPutAll.j0
   repeat' first
   | (with_reducible exact ih0 _ _ _ _ _ _ _ _ _ _ _)
   | (with_reducible exact ih1 _ _ _ _ _ _ _ _)
   | (with_reducible exact ih2 _ _ _)
   | (with_reducible exact impl_PutAll.mono _ _ _ _ _)
   | (with_reducible exact laws_eqNodeS.mono _ _ _)
   | (with_reducible exact laws_eqNodeSS.mono _ _ _)
   | (with_reducible exact laws_heldNodeS.mono _ _ _)
   | (with_reducible exact laws_markNodeS.mono _ _ _)
   | (with_reducible exact laws_szNodeSS.mono _ _ _)
   | (with_reducible exact laws_toNodeS.mono _ _)
   | (with_reducible exact laws_toNodeSS.mono _ _)
   | (with_reducible exact spec_PutAll.mono _ _ _ _ _)
   | (with_reducible first | exact LeO.refl _ | exact LeO.none _ | refine LeO.ite ?_ ?_ | refine LeO.bind ?_ (fun _ => ?_))
   | exact ih0 _ _ _ _ _ _ _ _ _ _ _
   | exact ih1 _ _ _ _ _ _ _ _
   | exact ih2 _ _ _
   | exact impl_PutAll.mono _ _ _ _ _
   | exact laws_eqNodeS.mono _ _ _
   | exact laws_eqNodeSS.mono _ _ _
   | exact laws_heldNodeS.mono _ _ _
   | exact laws_markNodeS.mono _ _ _
   | exact laws_szNodeSS.mono _ _ _
   | exact laws_toNodeS.mono _ _
   | exact laws_toNodeSS.mono _ _
   | exact spec_PutAll.mono _ _ _ _ _
   | exact LeO.none _ | refine LeO.ite ?_ ?_ | refine LeO.bind ?_ (fun _ => ?_)
  ·intro y0 y1 y2 y3 y4 y5 y6 y7
   unfold laws_FnExactPutAll.j1
   repeat' first
   | (with_reducible exact ih0 _ _ _ _ _ _ _ _ _ _ _)
   | (with_reducible exact ih1 _ _ _ _ _ _ _ _)
   | (with_reducible exact ih2 _ _ _)
   | (with_reducible exact impl_PutAll.mono _ _ _ _ _)
   | (with_reducible exact laws_eqNodeS.mono _ _ _)
   | (with_reducible exact laws_eqNodeSS.mono _ _ _)
   | (with_reducible exact laws_heldNodeS.mono _ _ _)
   | (with_reducible exact laws_markNodeS.mono _ _ _)
   | (with_reducible exact laws_szNodeSS.mono _ _ _)
   | (with_reducible exact laws_toNodeS.mono _ _)
   | (with_reducible exact laws_toNodeSS.mono _ _)
   | (with_reducible exact spec_PutAll.mono _ _ _ _ _)
   | (with_reducible first | exact LeO.refl _ | exact LeO.none _ | refine LeO.ite ?_ ?_ | refine LeO.bind ?_ (fun _ => ?_))
   | exact ih0 _ _ _ _ _ _ _ _ _ _ _
   | exact ih1 _ _ _ _ _ _ _ _
   | exact ih2 _ _ _
   | exact impl_PutAll.mono _ _ _ _ _
   | exact laws_eqNodeS.mono _ _ _
   | exact laws_eqNodeSS.mono _ _ _
   | exact laws_heldNodeS.mono _ _ _
   | exact laws_markNodeS.mono _ _ _
   | exact laws_szNodeSS.mono _ _ _
   | exact laws_toNodeS.mono _ _
   | exact laws_toNodeSS.mono _ _
   | exact spec_PutAll.mono _ _ _ _ _
   | exact LeO.none _ | refine LeO.ite ?_ ?_ | refine LeO.bind ?_ (fun _ => ?_)
  ·intro y0 y1 y2
   unfold laws_FnExactPutAll.j2
   repeat' first
   | (with_reducible exact ih0 _ _ _ _ _ _ _ _ _ _ _)
   | (with_reducible exact ih1 _ _ _ _ _ _ _ _)
   | (with_reducible exact ih2 _ _ _)
   | (with_reducible exact impl_PutAll.mono _ _ _ _ _)
   | (with_reducible exact laws_eqNodeS.mono _ _ _)
   | (with_reducible exact laws_eqNodeSS.mono _ _ _)
   | (with_reducible exact laws_heldNodeS.mono _ _ _)
   | (with_reducible exact laws_markNodeS.mono _ _ _)
   | (with_reducible exact laws_szNodeSS.mono _ _ _)
   | (with_reducible exact laws_toNodeS.mono _ _)
   | (with_reducible exact laws_toNodeSS.mono _ _)
   | (with_reducible exact spec_PutAll.mono _ _ _ _ _)
   | (with_reducible first | exact LeO.refl _ | exact LeO.none _ | refine LeO.ite ?_ ?_ | refine LeO.bind ?_ (fun _ => ?_))
   | exact ih0 _ _ _ _ _ _ _ _ _ _ _
   | exact ih1 _ _ _ _ _ _ _ _
   | exact ih2 _ _ _
   | exact impl_PutAll.mono _ _ _ _ _
   | exact laws_eqNodeS.mono _ _ _
   | exact laws_eqNodeSS.mono _ _ _
   | exact laws_heldNodeS.mono _ _ _
   | exact laws_markNodeS.mono _ _ _
   | exact laws_szNodeSS.mono _ _ _
   | exact laws_toNodeS.mono _ _
   | exact laws_toNodeSS.mono _ _
   | exact spec_PutAll.mono _ _ _ _ _
   | exact LeO.none _ | refine LeO.ite ?_ ?_ | refine LeO.bind ?_ (fun _ => ?_)
theorem laws_FnExactPutAll.mono : ∀ a0 a1 a2 a3 k, LeO (laws_FnExactPutAll.f k a0 a1 a2 a3) (laws_FnExactPutAll.f (k + 1) a0 a1 a2 a3) := by
 intro a0 a1 a2 a3 k
 obtain ⟨ih0, ih1, ih2⟩ := laws_FnExactPutAll.mono_l k
 unfold laws_FnExactPutAll.f
 repeat' first
   | (with_reducible exact ih0 _ _ _ _ _ _ _ _ _ _ _)
   | (with_reducible exact ih1 _ _ _ _ _ _ _ _)
   | (with_reducible exact ih2 _ _ _)
   | (with_reducible exact impl_PutAll.mono _ _ _ _ _)
   | (with_reducible exact laws_eqNodeS.mono _ _ _)
   | (with_reducible exact laws_eqNodeSS.mono _ _ _)
   | (with_reducible exact laws_heldNodeS.mono _ _ _)
   | (with_reducible exact laws_markNodeS.mono _ _ _)
   | (with_reducible exact laws_szNodeSS.mono _ _ _)
   | (with_reducible exact laws_toNodeS.mono _ _)
   | (with_reducible exact laws_toNodeSS.mono _ _)
   | (with_reducible exact spec_PutAll.mono _ _ _ _ _)
   | (with_reducible first | exact LeO.refl _ | exact LeO.none _ | refine LeO.ite ?_ ?_ | refine LeO.bind ?_ (fun _ => ?_))
   | exact ih0 _ _ _ _ _ _ _ _ _ _ _
   | exact ih1 _ _ _ _ _ _ _ _
   | exact ih2 _ _ _
   | exact impl_PutAll.mono _ _ _ _ _
   | exact laws_eqNodeS.mono _ _ _
   | exact laws_eqNodeSS.mono _ _ _
   | exact laws_heldNodeS.mono _ _ _
   | exact laws_markNodeS.mono _ _ _
   | exact laws_szNodeSS.mono _ _ _
   | exact laws_toNodeS.mono _ _
   | exact laws_toNodeSS.mono _ _
   | exact spec_PutAll.mono _ _ _ _ _
   | exact LeO.none _ | refine LeO.ite ?_ ?_ | refine LeO.bind ?_ (fun _ => ?_)
set_option maxHeartbeats 8000000 in
set_option maxRecDepth 100000 in
theorem laws_FnExactPutAll.calls (k : Nat) (a0 : Int) (a1 : Int) (A2 : Option Addr) (c2 : Nat) (l2 : List (S54)) (A3 : Option Addr) (c3 : Nat) (l3 : List (List (S54))) (r : Bool) (w : World) (hr2 : Kd.C k54 w A2 l2.length l2) (hc2 : l2.length ≤ c2) (hr3 : Kd.C (Kd.slice 54 k54) w A3 l3.length l3) (hc3 : l3.length ≤ c3) (h : laws_FnExactPutAll.f k a0 a1 l2 l3 = some true) :
  Calls Try.prog 3 #[.int .i64 a0, .int .i64 a1, .slice A2 l2.length c2, .slice A3 l3.length c3] w fun e w' => e = .returned (.bool true) ∧ Below w.heap.size w w' := by
 have HR2 := Aside0.mk hr2
 have HC2 := Aside0.mk hc2
 clear hr2 hc2
 have HR3 := Aside0.mk hr3
 have HC3 := Aside0.mk hc3
 clear hr3 hc3
 have HB := Aside0.mk (Below.refl w.heap.size w)
 have H : ((laws_szNodeS.f l2 1048576).bind fun t229 => (if t229 < 0 then (some true) else ((laws_szNodeSS.f k l3 t229).bind fun t230 => (if t230 < 0 then (some true) else ((laws_toNodeS.f k l2).bind fun t231 => ((laws_toNodeSS.f k l3).bind fun t234 => ((spec_PutAll.f k a0 a1 t231 t234).bind fun bt237 => ((laws_toNodeS.f k l2).bind fun t241 => ((laws_toNodeSS.f k l3).bind fun t244 => ((impl_PutAll.f k a0 a1 t241 t244).bind fun bt247 => ((laws_eqNodeS.f k bt247.1 bt237.1).bind fun t251 => (if t251 = true then (laws_FnExactPutAll.j0 k a0 a1 l2 l3 bt237.1 bt237.2 t241 t244 bt247.1 bt247.2 (bt247.2 != bt237.2)) else (laws_FnExactPutAll.j0 k a0 a1 l2 l3 bt237.1 bt237.2 t241 t244 bt247.1 bt247.2 true))))))))))))) = some true := h
 clear h
 replace H := Option.bind_eq_some_iff.mp H
 obtain ⟨t229, A50, H⟩ := H
 replace H : (if t229 < 0 then (some true) else ((laws_szNodeSS.f k l3 t229).bind fun t230 => (if t230 < 0 then (some true) else ((laws_toNodeS.f k l2).bind fun t231 => ((laws_toNodeSS.f k l3).bind fun t234 => ((spec_PutAll.f k a0 a1 t231 t234).bind fun bt237 => ((laws_toNodeS.f k l2).bind fun t241 => ((laws_toNodeSS.f k l3).bind fun t244 => ((impl_PutAll.f k a0 a1 t241 t244).bind fun bt247 => ((laws_eqNodeS.f k bt247.1 bt237.1).bind fun t251 => (if t251 = true then (laws_FnExactPutAll.j0 k a0 a1 l2 l3 bt237.1 bt237.2 t241 t244 bt247.1 bt247.2 (bt247.2 != bt237.2)) else (laws_FnExactPutAll.j0 k a0 a1 l2 l3 bt237.1 bt237.2 t241 t244 bt247.1 bt247.2 true)))))))))))) = some true := H
 have A5 := Aside0.mk A50
 clear A50
 by_cases c6 : t229 < 0
 ·rw [if_pos c6] at H
  have c6b0 : decide (t229 < 0) = true := decide_eq_true c6
  clear c6
  go_enter Try.func3, Try.ntmps3
  go_wp2_with (first | ((with_reducible refine gate_callee (f := 7) rfl ?_); refine goesL_ (some 23) rfl rfl Try.func7 (by kernel_rfl) rfl #[.slice A2 l2.length c2, .int .i64 1048576] rfl qG ?_; (with_reducible refine (laws_szNodeS.calls _ _ l2 1048576 t229 _ ?side1 ?side2 A5.out).mono ?_); (case side1 => exact qC HR2.out); (case side2 => exact HC2.out); rintro e w' ⟨rfl, ⟨nd, rfl⟩⟩; refine ⟨_, rfl, ?_⟩))
  go_ret
  exact ⟨qE, qB⟩
 ·rw [if_neg c6] at H
  have c6b0 : decide (t229 < 0) = false := decide_eq_false c6
  clear c6
  replace H := Option.bind_eq_some_iff.mp H
  obtain ⟨t230, A70, H⟩ := H
  replace H : (if t230 < 0 then (some true) else ((laws_toNodeS.f k l2).bind fun t231 => ((laws_toNodeSS.f k l3).bind fun t234 => ((spec_PutAll.f k a0 a1 t231 t234).bind fun bt237 => ((laws_toNodeS.f k l2).bind fun t241 => ((laws_toNodeSS.f k l3).bind fun t244 => ((impl_PutAll.f k a0 a1 t241 t244).bind fun bt247 => ((laws_eqNodeS.f k bt247.1 bt237.1).bind fun t251 => (if t251 = true then (laws_FnExactPutAll.j0 k a0 a1 l2 l3 bt237.1 bt237.2 t241 t244 bt247.1 bt247.2 (bt247.2 != bt237.2)) else (laws_FnExactPutAll.j0 k a0 a1 l2 l3 bt237.1 bt237.2 t241 t244 bt247.1 bt247.2 true)))))))))) = some true := H
  have A7 := Aside0.mk A70
  clear A70
  by_cases c8 : t230 < 0
  ·rw [if_pos c8] at H
   have c8b0 : decide (t230 < 0) = true := decide_eq_true c8
   clear c8
   go_enter Try.func3, Try.ntmps3
   go_wp2_with (first | ((with_reducible refine gate_callee (f := 7) rfl ?_); refine goesL_ (some 23) rfl rfl Try.func7 (by kernel_rfl) rfl #[.slice A2 l2.length c2, .int .i64 1048576] rfl qG ?_; (with_reducible refine (laws_szNodeS.calls _ _ l2 1048576 t229 _ ?side1 ?side2 A5.out).mono ?_); (case side1 => exact qC HR2.out); (case side2 => exact HC2.out); rintro e w' ⟨rfl, ⟨nd, rfl⟩⟩; refine ⟨_, rfl, ?_⟩) | ((with_reducible refine gate_callee (f := 8) rfl ?_); refine goesL_ (some 28) rfl rfl Try.func8 (by kernel_rfl) rfl #[.slice A3 l3.length c3, .int .i64 t229] rfl qG ?_; (with_reducible refine (laws_szNodeSS.calls k _ _ l3 t229 t230 _ ?side1 ?side2 A7.out).mono ?_); (case side1 => exact qC HR3.out); (case side2 => exact HC3.out); rintro e w' ⟨rfl, ⟨nd, rfl⟩⟩; refine ⟨_, rfl, ?_⟩))
   go_ret
   exact ⟨qE, qB⟩
  ·rw [if_neg c8] at H
   have c8b0 : decide (t230 < 0) = false := decide_eq_false c8
   clear c8
   replace H := Option.bind_eq_some_iff.mp H
   obtain ⟨t231, A90, H⟩ := H
   replace H : ((laws_toNodeSS.f k l3).bind fun t234 => ((spec_PutAll.f k a0 a1 t231 t234).bind fun bt237 => ((laws_toNodeS.f k l2).bind fun t241 => ((laws_toNodeSS.f k l3).bind fun t244 => ((impl_PutAll.f k a0 a1 t241 t244).bind fun bt247 => ((laws_eqNodeS.f k bt247.1 bt237.1).bind fun t251 => (if t251 = true then (laws_FnExactPutAll.j0 k a0 a1 l2 l3 bt237.1 bt237.2 t241 t244 bt247.1 bt247.2 (bt247.2 != bt237.2)) else (laws_FnExactPutAll.j0 k a0 a1 l2 l3 bt237.1 bt237.2 t241 t244 bt247.1 bt247.2 true)))))))) = some true := H
   have A9 := Aside0.mk A90
   clear A90
   replace H := Option.bind_eq_some_iff.mp H
   obtain ⟨t234, A100, H⟩ := H
   replace H : ((spec_PutAll.f k a0 a1 t231 t234).bind fun bt237 => ((laws_toNodeS.f k l2).bind fun t241 => ((laws_toNodeSS.f k l3).bind fun t244 => ((impl_PutAll.f k a0 a1 t241 t244).bind fun bt247 => ((laws_eqNodeS.f k bt247.1 bt237.1).bind fun t251 => (if t251 = true then (laws_FnExactPutAll.j0 k a0 a1 l2 l3 bt237.1 bt237.2 t241 t244 bt247.1 bt247.2 (bt247.2 != bt237.2)) else (laws_FnExactPutAll.j0 k a0 a1 l2 l3 bt237.1 bt237.2 t241 t244 bt247.1 bt247.2 true))))))) = some true := H
   have A10 := Aside0.mk A100
   clear A100
   replace H := Option.bind_eq_some_iff.mp H
   obtain ⟨⟨t237, t238⟩, A110, H⟩ := H
   replace H : ((laws_toNodeS.f k l2).bind fun t241 => ((laws_toNodeSS.f k l3).bind fun t244 => ((impl_PutAll.f k a0 a1 t241 t244).bind fun bt247 => ((laws_eqNodeS.f k bt247.1 t237).bind fun t251 => (if t251 = true then (laws_FnExactPutAll.j0 k a0 a1 l2 l3 t237 t238 t241 t244 bt247.1 bt247.2 (bt247.2 != t238)) else (laws_FnExactPutAll.j0 k a0 a1 l2 l3 t237 t238 t241 t244 bt247.1 bt247.2 true)))))) = some true := H
   have A11 := Aside0.mk A110
   clear A110
   replace H := Option.bind_eq_some_iff.mp H
   obtain ⟨t241, A120, H⟩ := H
   replace H : ((laws_toNodeSS.f k l3).bind fun t244 => ((impl_PutAll.f k a0 a1 t241 t244).bind fun bt247 => ((laws_eqNodeS.f k bt247.1 t237).bind fun t251 => (if t251 = true then (laws_FnExactPutAll.j0 k a0 a1 l2 l3 t237 t238 t241 t244 bt247.1 bt247.2 (bt247.2 != t238)) else (laws_FnExactPutAll.j0 k a0 a1 l2 l3 t237 t238 t241 t244 bt247.1 bt247.2 true))))) = some true := H
   have A12 := Aside0.mk A120
   clear A120
   replace H := Option.bind_eq_some_iff.mp H
   obtain ⟨t244, A130, H⟩ := H
   replace H : ((impl_PutAll.f k a0 a1 t241 t244).bind fun bt247 => ((laws_eqNodeS.f k bt247.1 t237).bind fun t251 => (if t251 = true then (laws_FnExactPutAll.j0 k a0 a1 l2 l3 t237 t238 t241 t244 bt247.1 bt247.2 (bt247.2 != t238)) else (laws_FnExactPutAll.j0 k a0 a1 l2 l3 t237 t238 t241 t244 bt247.1 bt247.2 true)))) = some true := H
   have A13 := Aside0.mk A130
   clear A130
   replace H := Option.bind_eq_some_iff.mp H
   obtain ⟨⟨t247, t248⟩, A140, H⟩ := H
   replace H : ((laws_eqNodeS.f k t247 t237).bind fun t251 => (if t251 = true then (laws_FnExactPutAll.j0 k a0 a1 l2 l3 t237 t238 t241 t244 t247 t248 (t248 != t238)) else (laws_FnExactPutAll.j0 k a0 a1 l2 l3 t237 t238 t241 t244 t247 t248 true))) = some true := H
   have A14 := Aside0.mk A140
   clear A140
   have HC15 := Aside0.mk H
   clear H
   go_enter Try.func3, Try.ntmps3
   go_upto_region 12 with (first | ((with_reducible refine gate_callee (f := 7) rfl ?_); refine goesL_ (some 23) rfl rfl Try.func7 (by kernel_rfl) rfl #[.slice A2 l2.length c2, .int .i64 1048576] rfl qG ?_; (with_reducible refine (laws_szNodeS.calls _ _ l2 1048576 t229 _ ?side1 ?side2 A5.out).mono ?_); (case side1 => exact qC HR2.out); (case side2 => exact HC2.out); rintro e w' ⟨rfl, ⟨nd, rfl⟩⟩; refine ⟨_, rfl, ?_⟩) | ((with_reducible refine gate_callee (f := 8) rfl ?_); refine goesL_ (some 28) rfl rfl Try.func8 (by kernel_rfl) rfl #[.slice A3 l3.length c3, .int .i64 t229] rfl qG ?_; (with_reducible refine (laws_szNodeSS.calls k _ _ l3 t229 t230 _ ?side1 ?side2 A7.out).mono ?_); (case side1 => exact qC HR3.out); (case side2 => exact HC3.out); rintro e w' ⟨rfl, ⟨nd, rfl⟩⟩; refine ⟨_, rfl, ?_⟩) | ((with_reducible refine gate_callee (f := 10) rfl ?_); refine goesL_ (some 35) rfl rfl Try.func10 (by kernel_rfl) rfl #[.slice A2 l2.length c2] rfl qG ?_; (with_reducible refine (laws_toNodeS.calls k _ _ l2 t231 _ ?side1 ?side2 A9.out).mono ?_); (case side1 => exact qC HR2.out); (case side2 => exact HC2.out); rintro e w16 ⟨v232, rfl, ho0, hb⟩; refine ⟨_, rfl, ?_⟩; have n0_ := Aside0.mk (Kd.R_lower ho0 (below_size (qB))); have n1_ := Aside0.mk (below_step (qB) hb); clear HB; have HO233 := n0_; have HB := n1_; clear n0_ n1_; (try clear hb); (try clear hb2); (try clear hk); (try clear hi); (try clear ho0)) | ((with_reducible refine gate_callee (f := 11) rfl ?_); refine goesL_ (some 37) rfl rfl Try.func11 (by kernel_rfl) rfl #[.slice A3 l3.length c3] rfl qG ?_; (with_reducible refine (laws_toNodeSS.calls k _ _ l3 t234 _ ?side1 ?side2 A10.out).mono ?_); (case side1 => exact qC (Kd.C_below HR3.out HB.out)); (case side2 => exact HC3.out); rintro e w17 ⟨v235, rfl, ho0, hb⟩; refine ⟨_, rfl, ?_⟩; have n0_ := Aside0.mk (Kd.R_below (qR HO233.out) hb); have n1_ := Aside0.mk (Kd.S_lower (Kd.S_new' ho0 (Kd.R_lt (qR HO233.out))) (below_size (qB))); have n2_ := Aside0.mk (below_step (qB) hb); clear HO233; clear HB; have HO233 := n0_; have HO236 := n1_; have HB := n2_; clear n0_ n1_ n2_; (try clear hb); (try clear hb2); (try clear hk); (try clear hi); (try clear ho0); obtain ⟨Ao18, co18, eo18⟩ := Kd.R_slice HO233.out; subst eo18; obtain ⟨Ao19, co19, eo19⟩ := Kd.S_slice HO236.out; subst eo19) | ((with_reducible refine gate_callee (f := 9) rfl ?_); refine goesL_ (some 38) rfl rfl Try.func9 (by kernel_rfl) rfl #[.int .i64 a0, .int .i64 a1, .slice Ao18 t231.length co18, .slice Ao19 t234.length co19] rfl qG ?_; (with_reducible refine (spec_PutAll.calls k a0 a1 _ _ t231 _ _ t234 t237 t238 _ ?side1 ?side2 ?side3 ?side4 A11.out).mono ?_); (case side1 => repeat (first | exact (Kd.R_reads' HO233.out).2.2 | (with_reducible refine Kd.C_alloc ?_ _) | (with_reducible refine Kd.C_drewN ?_ _) | (with_reducible refine Kd.C_drew ?_))); (case side2 => exact (Kd.R_reads' HO233.out).2.1); (case side3 => repeat (first | exact (Kd.S_reads' HO236.out).2.2 | (with_reducible refine Kd.C_alloc ?_ _) | (with_reducible refine Kd.C_drewN ?_ _) | (with_reducible refine Kd.C_drew ?_))); (case side4 => exact (Kd.S_reads' HO236.out).2.1); rintro e w20 ⟨v239, rfl, ho0, hb⟩; refine ⟨_, rfl, ?_⟩; have n0_ := Aside0.mk (Kd.R_elder' (qR HO233.out) (Kd.R_base ho0) hb); have n1_ := Aside0.mk (Kd.S_elder' (by (with_reducible repeat (first | apply Kd.S_alloc | apply Kd.S_drewN | apply Kd.S_drew)); exact HO236.out) (Kd.R_base ho0) hb); have n2_ := Aside0.mk (Kd.R_lower (Kd.R_new' ho0 (Kd.R_lt (qR HO233.out))) (below_size (qB))); have n3_ := Aside0.mk (below_step (qB) hb); clear HO233; clear HO236; clear HB; have HO233 := n0_; have HO236 := n1_; have HO240 := n2_; have HB := n3_; clear n0_ n1_ n2_ n3_; (try clear hb); (try clear hb2); (try clear hk); (try clear hi); (try clear ho0)) | ((with_reducible refine gate_callee (f := 10) rfl ?_); refine goesL_ (some 42) rfl rfl Try.func10 (by kernel_rfl) rfl #[.slice A2 l2.length c2] rfl qG ?_; (with_reducible refine (laws_toNodeS.calls k _ _ l2 t241 _ ?side1 ?side2 A12.out).mono ?_); (case side1 => exact qC (Kd.C_below HR2.out HB.out)); (case side2 => exact HC2.out); rintro e w21 ⟨v242, rfl, ho0, hb⟩; refine ⟨_, rfl, ?_⟩; have n0_ := Aside0.mk (Kd.R_elder' (qR HO233.out) (Kd.R_base ho0) hb); have n1_ := Aside0.mk (Kd.S_elder' (by (with_reducible repeat (first | apply Kd.S_alloc | apply Kd.S_drewN | apply Kd.S_drew)); exact HO236.out) (Kd.R_base ho0) hb); have n2_ := Aside0.mk (Kd.R_elder' (qR HO240.out) (Kd.R_base ho0) hb); have n3_ := Aside0.mk (Kd.R_lower (Kd.R_new' (Kd.R_new' ho0 (Kd.R_lt (qR HO233.out))) (Kd.R_lt (qR HO240.out))) (below_size (qB))); have n4_ := Aside0.mk (below_step (qB) hb); clear HO233; clear HO236; clear HO240; clear HB; have HO233 := n0_; have HO236 := n1_; have HO240 := n2_; have HO243 := n3_; have HB := n4_; clear n0_ n1_ n2_ n3_ n4_; (try clear hb); (try clear hb2); (try clear hk); (try clear hi); (try clear ho0)) | ((with_reducible refine gate_callee (f := 11) rfl ?_); refine goesL_ (some 44) rfl rfl Try.func11 (by kernel_rfl) rfl #[.slice A3 l3.length c3] rfl qG ?_; (with_reducible refine (laws_toNodeSS.calls k _ _ l3 t244 _ ?side1 ?side2 A13.out).mono ?_); (case side1 => exact qC (Kd.C_below HR3.out HB.out)); (case side2 => exact HC3.out); rintro e w22 ⟨v245, rfl, ho0, hb⟩; refine ⟨_, rfl, ?_⟩; have n0_ := Aside0.mk (Kd.R_below (qR HO233.out) hb); have n1_ := Aside0.mk (Kd.S_elder' (by (with_reducible repeat (first | apply Kd.S_alloc | apply Kd.S_drewN | apply Kd.S_drew)); exact HO236.out) (Kd.S_base ho0) hb); have n2_ := Aside0.mk (Kd.R_below (qR HO240.out) hb); have n3_ := Aside0.mk (Kd.R_below (qR HO243.out) hb); have n4_ := Aside0.mk (Kd.S_lower (Kd.S_new' (Kd.S_new' (Kd.S_new' (Kd.S_new' ho0 (Kd.R_lt (qR HO233.out))) (Kd.S_lt (by (with_reducible repeat (first | apply Kd.S_alloc | apply Kd.S_drewN | apply Kd.S_drew)); exact HO236.out))) (Kd.R_lt (qR HO240.out))) (Kd.R_lt (qR HO243.out))) (below_size (qB))); have n5_ := Aside0.mk (below_step (qB) hb); clear HO233; clear HO236; clear HO240; clear HO243; clear HB; have HO233 := n0_; have HO236 := n1_; have HO240 := n2_; have HO243 := n3_; have HO246 := n4_; have HB := n5_; clear n0_ n1_ n2_ n3_ n4_ n5_; (try clear hb); (try clear hb2); (try clear hk); (try clear hi); (try clear ho0); obtain ⟨Ao23, co23, eo23⟩ := Kd.R_slice HO243.out; subst eo23; obtain ⟨Ao24, co24, eo24⟩ := Kd.S_slice HO246.out; subst eo24) | ((with_reducible refine gate_callee (f := 12) rfl ?_); refine goesL_ (some 50) rfl rfl Try.func12 (by kernel_rfl) rfl #[.int .i64 a0, .int .i64 a1, .slice Ao23 t241.length co23, .slice Ao24 t244.length co24] rfl qG ?_; (with_reducible refine (impl_PutAll.calls k a0 a1 _ _ t241 _ _ t244 t247 t248 _ ?side1 ?side2 ?side3 ?side4 A14.out).mono ?_); (case side1 => repeat (first | exact (Kd.R_reads' HO243.out).2.2 | (with_reducible refine Kd.C_alloc ?_ _) | (with_reducible refine Kd.C_drewN ?_ _) | (with_reducible refine Kd.C_drew ?_))); (case side2 => exact (Kd.R_reads' HO243.out).2.1); (case side3 => repeat (first | exact (Kd.S_reads' HO246.out).2.2 | (with_reducible refine Kd.C_alloc ?_ _) | (with_reducible refine Kd.C_drewN ?_ _) | (with_reducible refine Kd.C_drew ?_))); (case side4 => exact (Kd.S_reads' HO246.out).2.1); rintro e w25 ⟨v249, rfl, ho0, hb⟩; refine ⟨_, rfl, ?_⟩; have n0_ := Aside0.mk (Kd.R_elder' (qR HO233.out) (Kd.R_base ho0) hb); have n1_ := Aside0.mk (Kd.S_elder' (by (with_reducible repeat (first | apply Kd.S_alloc | apply Kd.S_drewN | apply Kd.S_drew)); exact HO236.out) (Kd.R_base ho0) hb); have n2_ := Aside0.mk (Kd.R_elder' (qR HO240.out) (Kd.R_base ho0) hb); have n3_ := Aside0.mk (Kd.R_elder' (qR HO243.out) (Kd.R_base ho0) hb); have n4_ := Aside0.mk (Kd.S_elder' (by (with_reducible repeat (first | apply Kd.S_alloc | apply Kd.S_drewN | apply Kd.S_drew)); exact HO246.out) (Kd.R_base ho0) hb); have n5_ := Aside0.mk (Kd.R_lower (Kd.R_new' (Kd.R_new' (Kd.R_new' ho0 (Kd.R_lt (qR HO233.out))) (Kd.R_lt (qR HO240.out))) (Kd.R_lt (qR HO243.out))) (below_size (qB))); have n6_ := Aside0.mk (below_step (qB) hb); clear HO233; clear HO236; clear HO240; clear HO243; clear HO246; clear HB; have HO233 := n0_; have HO236 := n1_; have HO240 := n2_; have HO243 := n3_; have HO246 := n4_; have HO250 := n5_; have HB := n6_; clear n0_ n1_ n2_ n3_ n4_ n5_ n6_; (try clear hb); (try clear hb2); (try clear hk); (try clear hi); (try clear ho0)))
   (try simp only [Act.put, List.setIfInBounds_toArray, List.set_cons_zero, List.set_cons_succ])
   go_cut [61] (fun v61 wc => ∃ (kq : Nat) (x61_14 : Bool), v61 = .bool x61_14 ∧ Aside0 (laws_FnExactPutAll.j0 kq a0 a1 l2 l3 t237 t238 t241 t244 t247 t248 x61_14 = some true) ∧ Aside0 (kq ≤ k) ∧ Aside0 (Kd.R k52 52 wc w.heap.size (fun k_ => some k_ ≠ ((.slice Ao23 t241.length co23) : Value).ownBlock ∧ some k_ ≠ (v249 : Value).ownBlock) v239 t237) ∧ Aside0 (Kd.R k52 52 wc w.heap.size (fun k_ => some k_ ≠ (v239 : Value).ownBlock ∧ some k_ ≠ (v249 : Value).ownBlock) (.slice Ao23 t241.length co23) t241) ∧ Aside0 (Kd.S (Kd.slice 52 k52) 26 wc w.heap.size (fun k_ => some k_ ≠ (v239 : Value).ownBlock ∧ some k_ ≠ ((.slice Ao23 t241.length co23) : Value).ownBlock ∧ some k_ ≠ (v249 : Value).ownBlock) (.slice Ao24 t244.length co24) t244) ∧ Aside0 (Kd.R k52 52 wc w.heap.size (fun k_ => some k_ ≠ (v239 : Value).ownBlock ∧ some k_ ≠ ((.slice Ao23 t241.length co23) : Value).ownBlock) v249 t247) ∧ Aside0 (Below w.heap.size w wc))
   case first =>
    have H := HC15.out
    clear HC15
    replace H := Option.bind_eq_some_iff.mp H
    obtain ⟨t251, A260, H⟩ := H
    replace H : (if t251 = true then (laws_FnExactPutAll.j0 k a0 a1 l2 l3 t237 t238 t241 t244 t247 t248 (t248 != t238)) else (laws_FnExactPutAll.j0 k a0 a1 l2 l3 t237 t238 t241 t244 t247 t248 true)) = some true := H
    have A26 := Aside0.mk A260
    clear A260
    by_cases c27 : t251 = true
    ·subst c27
     have H1 : (laws_FnExactPutAll.j0 k a0 a1 l2 l3 t237 t238 t241 t244 t247 t248 (t248 != t238)) = some true := by rw [if_pos rfl] at H; exact H
     clear H
     have H := H1
     clear H1
     have H' := Aside0.mk H
     clear H
     obtain ⟨Ao28, co28, eo28⟩ := Kd.R_slice HO250.out
     subst eo28
     obtain ⟨Ao29, co29, eo29⟩ := Kd.R_slice HO240.out
     subst eo29
     go_wp2_with (first | ((with_reducible refine gate_callee (f := 13) rfl ?_); refine goesL_ (some 55) rfl rfl Try.func13 (by kernel_rfl) rfl #[.slice Ao28 t247.length co28, .slice Ao29 t237.length co29] rfl qG ?_; (with_reducible refine (laws_eqNodeS.calls k _ _ t247 _ _ t237 true _ ?side1 ?side2 ?side3 ?side4 A26.out).mono ?_); (case side1 => repeat (first | exact (Kd.R_reads' HO250.out).2.2 | (with_reducible refine Kd.C_alloc ?_ _) | (with_reducible refine Kd.C_drewN ?_ _) | (with_reducible refine Kd.C_drew ?_))); (case side2 => exact (Kd.R_reads' HO250.out).2.1); (case side3 => repeat (first | exact (Kd.R_reads' HO240.out).2.2 | (with_reducible refine Kd.C_alloc ?_ _) | (with_reducible refine Kd.C_drewN ?_ _) | (with_reducible refine Kd.C_drew ?_))); (case side4 => exact (Kd.R_reads' HO240.out).2.1); rintro e w30 ⟨rfl, hb⟩; refine ⟨_, rfl, ?_⟩; have n0_ := Aside0.mk (Kd.R_below (qR HO233.out) hb); have n1_ := Aside0.mk (Kd.S_below (by (with_reducible repeat (first | apply Kd.S_alloc | apply Kd.S_drewN | apply Kd.S_drew)); exact HO236.out) hb); have n2_ := Aside0.mk (Kd.R_below (qR HO240.out) hb); have n3_ := Aside0.mk (Kd.R_below (qR HO243.out) hb); have n4_ := Aside0.mk (Kd.S_below (by (with_reducible repeat (first | apply Kd.S_alloc | apply Kd.S_drewN | apply Kd.S_drew)); exact HO246.out) hb); have n5_ := Aside0.mk (Kd.R_below (qR HO250.out) hb); have n6_ := Aside0.mk (below_step (qB) hb); clear HO233; clear HO236; clear HO240; clear HO243; clear HO246; clear HO250; clear HB; have HO233 := n0_; have HO236 := n1_; have HO240 := n2_; have HO243 := n3_; have HO246 := n4_; have HO250 := n5_; have HB := n6_; clear n0_ n1_ n2_ n3_ n4_ n5_ n6_; (try clear hb); (try clear hb2); (try clear hk); (try clear hi)))
     go_meet
     case rel => exact ⟨_, ((t248 != t238)), qS, H', ⟨by first | omega | exact Nat.le_refl _⟩, ⟨by (with_reducible repeat (first | apply Kd.R_alloc | apply Kd.R_drewN | apply Kd.R_drew)); exact Kd.R_mono HO240.out (fun _ hk => ⟨hk.1.2, hk.2⟩)⟩, ⟨by (with_reducible repeat (first | apply Kd.R_alloc | apply Kd.R_drewN | apply Kd.R_drew)); exact Kd.R_mono HO243.out (fun _ hk => ⟨hk.1.2, hk.2⟩)⟩, ⟨by (with_reducible repeat (first | apply Kd.S_alloc | apply Kd.S_drewN | apply Kd.S_drew)); exact Kd.S_mono HO246.out (fun _ hk => ⟨hk.1.1.2, ⟨hk.1.2, hk.2⟩⟩)⟩, ⟨by (with_reducible repeat (first | apply Kd.R_alloc | apply Kd.R_drewN | apply Kd.R_drew)); exact Kd.R_mono HO250.out (fun _ hk => ⟨hk.1.2, hk.2⟩)⟩, ⟨qB⟩⟩
    ·replace c27 := Bool.eq_false_iff.mpr c27
     subst c27
     have H1 : (laws_FnExactPutAll.j0 k a0 a1 l2 l3 t237 t238 t241 t244 t247 t248 true) = some true := by rw [if_neg (show ¬ (false = true) by decide)] at H; exact H
     exact absurd H1 (by cases k <;> simp [laws_FnExactPutAll.j0])
   case rest =>
    clear HC15
    try clear c1
    try clear c2
    try clear p2
    try clear c3
    try clear c6
    try clear c6b0
    try clear c7
    try clear c8
    try clear c8b0
    try clear c9
    try clear c10
    try clear c11
    try clear c12
    try clear c13
    try clear c27
    obtain ⟨kq, x61_14, rfl, HA, HJ14, HO_10, HO_12, HO_13, HO_14, HB⟩ := hcut
    cases kq with
    | zero => exact absurd HA.out (by simp [laws_FnExactPutAll.j0])
    | succ kj14 =>
     have H := HA.out
     clear HA
     simp only [laws_FnExactPutAll.j0] at H
     by_cases c34 : x61_14 = true
     ·subst c34
      have H1 : (some false) = some true := by rw [if_pos rfl] at H; exact H
      exact absurd H1 (by simp)
     ·replace c34 := Bool.eq_false_iff.mpr c34
      subst c34
      have H1 : ((laws_toNodeS.f kj14 l2).bind fun t252 => ((laws_eqNodeS.f kj14 t241 t252).bind fun t255 => (if t255 = true then ((laws_toNodeSS.f kj14 l3).bind fun t256 => ((laws_eqNodeSS.f kj14 t244 t256).bind fun t259 => (if t259 = true then ((laws_markNodeS.f kj14 t241 1).bind fun bt260 => ((laws_markNodeSS.f t244 bt260.1).bind fun t262 => (if t262 < 0 then (laws_FnExactPutAll.j1 kj14 a0 a1 l2 l3 t237 t238 t247 true) else ((laws_eqNodeS.f kj14 t247 t237).bind fun t263 => (if t263 = true then (laws_FnExactPutAll.j1 kj14 a0 a1 l2 l3 t237 t238 t247 (t248 != t238)) else (laws_FnExactPutAll.j1 kj14 a0 a1 l2 l3 t237 t238 t247 true)))))) else (some false)))) else (some false)))) = some true := by rw [if_neg (show ¬ (false = true) by decide)] at H; exact H
      clear H
      have H := H1
      clear H1
      replace H := Option.bind_eq_some_iff.mp H
      obtain ⟨t252, A350, H⟩ := H
      replace H : ((laws_eqNodeS.f kj14 t241 t252).bind fun t255 => (if t255 = true then ((laws_toNodeSS.f kj14 l3).bind fun t256 => ((laws_eqNodeSS.f kj14 t244 t256).bind fun t259 => (if t259 = true then ((laws_markNodeS.f kj14 t241 1).bind fun bt260 => ((laws_markNodeSS.f t244 bt260.1).bind fun t262 => (if t262 < 0 then (laws_FnExactPutAll.j1 kj14 a0 a1 l2 l3 t237 t238 t247 true) else ((laws_eqNodeS.f kj14 t247 t237).bind fun t263 => (if t263 = true then (laws_FnExactPutAll.j1 kj14 a0 a1 l2 l3 t237 t238 t247 (t248 != t238)) else (laws_FnExactPutAll.j1 kj14 a0 a1 l2 l3 t237 t238 t247 true)))))) else (some false)))) else (some false))) = some true := H
      have A35 := Aside0.mk A350
      clear A350
      replace H := Option.bind_eq_some_iff.mp H
      obtain ⟨t255, A360, H⟩ := H
      replace H : (if t255 = true then ((laws_toNodeSS.f kj14 l3).bind fun t256 => ((laws_eqNodeSS.f kj14 t244 t256).bind fun t259 => (if t259 = true then ((laws_markNodeS.f kj14 t241 1).bind fun bt260 => ((laws_markNodeSS.f t244 bt260.1).bind fun t262 => (if t262 < 0 then (laws_FnExactPutAll.j1 kj14 a0 a1 l2 l3 t237 t238 t247 true) else ((laws_eqNodeS.f kj14 t247 t237).bind fun t263 => (if t263 = true then (laws_FnExactPutAll.j1 kj14 a0 a1 l2 l3 t237 t238 t247 (t248 != t238)) else (laws_FnExactPutAll.j1 kj14 a0 a1 l2 l3 t237 t238 t247 true)))))) else (some false)))) else (some false)) = some true := H
      have A36 := Aside0.mk A360
      clear A360
      by_cases c37 : t255 = true
      ·subst c37
       have H1 : ((laws_toNodeSS.f kj14 l3).bind fun t256 => ((laws_eqNodeSS.f kj14 t244 t256).bind fun t259 => (if t259 = true then ((laws_markNodeS.f kj14 t241 1).bind fun bt260 => ((laws_markNodeSS.f t244 bt260.1).bind fun t262 => (if t262 < 0 then (laws_FnExactPutAll.j1 kj14 a0 a1 l2 l3 t237 t238 t247 true) else ((laws_eqNodeS.f kj14 t247 t237).bind fun t263 => (if t263 = true then (laws_FnExactPutAll.j1 kj14 a0 a1 l2 l3 t237 t238 t247 (t248 != t238)) else (laws_FnExactPutAll.j1 kj14 a0 a1 l2 l3 t237 t238 t247 true)))))) else (some false)))) = some true := by rw [if_pos rfl] at H; exact H
       clear H
       have H := H1
       clear H1
       replace H := Option.bind_eq_some_iff.mp H
       obtain ⟨t256, A380, H⟩ := H
       replace H : ((laws_eqNodeSS.f kj14 t244 t256).bind fun t259 => (if t259 = true then ((laws_markNodeS.f kj14 t241 1).bind fun bt260 => ((laws_markNodeSS.f t244 bt260.1).bind fun t262 => (if t262 < 0 then (laws_FnExactPutAll.j1 kj14 a0 a1 l2 l3 t237 t238 t247 true) else ((laws_eqNodeS.f kj14 t247 t237).bind fun t263 => (if t263 = true then (laws_FnExactPutAll.j1 kj14 a0 a1 l2 l3 t237 t238 t247 (t248 != t238)) else (laws_FnExactPutAll.j1 kj14 a0 a1 l2 l3 t237 t238 t247 true)))))) else (some false))) = some true := H
       have A38 := Aside0.mk A380
       clear A380
       replace H := Option.bind_eq_some_iff.mp H
       obtain ⟨t259, A390, H⟩ := H
       replace H : (if t259 = true then ((laws_markNodeS.f kj14 t241 1).bind fun bt260 => ((laws_markNodeSS.f t244 bt260.1).bind fun t262 => (if t262 < 0 then (laws_FnExactPutAll.j1 kj14 a0 a1 l2 l3 t237 t238 t247 true) else ((laws_eqNodeS.f kj14 t247 t237).bind fun t263 => (if t263 = true then (laws_FnExactPutAll.j1 kj14 a0 a1 l2 l3 t237 t238 t247 (t248 != t238)) else (laws_FnExactPutAll.j1 kj14 a0 a1 l2 l3 t237 t238 t247 true)))))) else (some false)) = some true := H
       have A39 := Aside0.mk A390
       clear A390
       by_cases c40 : t259 = true
       ·subst c40
        have H1 : ((laws_markNodeS.f kj14 t241 1).bind fun bt260 => ((laws_markNodeSS.f t244 bt260.1).bind fun t262 => (if t262 < 0 then (laws_FnExactPutAll.j1 kj14 a0 a1 l2 l3 t237 t238 t247 true) else ((laws_eqNodeS.f kj14 t247 t237).bind fun t263 => (if t263 = true then (laws_FnExactPutAll.j1 kj14 a0 a1 l2 l3 t237 t238 t247 (t248 != t238)) else (laws_FnExactPutAll.j1 kj14 a0 a1 l2 l3 t237 t238 t247 true)))))) = some true := by rw [if_pos rfl] at H; exact H
        clear H
        have H := H1
        clear H1
        replace H := Option.bind_eq_some_iff.mp H
        obtain ⟨⟨t260, t261⟩, A410, H⟩ := H
        replace H : ((laws_markNodeSS.f t244 t260).bind fun t262 => (if t262 < 0 then (laws_FnExactPutAll.j1 kj14 a0 a1 l2 l3 t237 t238 t247 true) else ((laws_eqNodeS.f kj14 t247 t237).bind fun t263 => (if t263 = true then (laws_FnExactPutAll.j1 kj14 a0 a1 l2 l3 t237 t238 t247 (t248 != t238)) else (laws_FnExactPutAll.j1 kj14 a0 a1 l2 l3 t237 t238 t247 true))))) = some true := H
        have A41 := Aside0.mk A410
        clear A410
        replace H := Option.bind_eq_some_iff.mp H
        obtain ⟨t262, A420, H⟩ := H
        replace H : (if t262 < 0 then (laws_FnExactPutAll.j1 kj14 a0 a1 l2 l3 t237 t238 t247 true) else ((laws_eqNodeS.f kj14 t247 t237).bind fun t263 => (if t263 = true then (laws_FnExactPutAll.j1 kj14 a0 a1 l2 l3 t237 t238 t247 (t248 != t238)) else (laws_FnExactPutAll.j1 kj14 a0 a1 l2 l3 t237 t238 t247 true)))) = some true := H
        have A42 := Aside0.mk A420
        clear A420
        have HC43 := Aside0.mk H
        clear H
        go_upto_region 21 with (first | ((with_reducible refine gate_callee (f := 10) rfl ?_); refine goesL_ (some 64) rfl rfl Try.func10 (by kernel_rfl) rfl #[.slice A2 l2.length c2] rfl qG ?_; (with_reducible refine (laws_toNodeS.calls kj14 _ _ l2 t252 _ ?side1 ?side2 A35.out).mono ?_); (case side1 => exact qC (Kd.C_below HR2.out HB.out)); (case side2 => exact HC2.out); rintro e w44 ⟨v253, rfl, ho0, hb⟩; refine ⟨_, rfl, ?_⟩; have n0_ := Aside0.mk (Kd.R_elder' (qR HO_10.out) (Kd.R_base ho0) hb); have n1_ := Aside0.mk (Kd.R_elder' (qR HO_12.out) (Kd.R_base ho0) hb); have n2_ := Aside0.mk (Kd.S_elder' (by (with_reducible repeat (first | apply Kd.S_alloc | apply Kd.S_drewN | apply Kd.S_drew)); exact HO_13.out) (Kd.R_base ho0) hb); have n3_ := Aside0.mk (Kd.R_elder' (qR HO_14.out) (Kd.R_base ho0) hb); have n4_ := Aside0.mk (Kd.R_lower (Kd.R_new' (Kd.R_new' (Kd.R_new' ho0 (Kd.R_lt (qR HO_10.out))) (Kd.R_lt (qR HO_12.out))) (Kd.R_lt (qR HO_14.out))) (below_size (qB))); have n5_ := Aside0.mk (below_step (qB) hb); clear HO_10; clear HO_12; clear HO_13; clear HO_14; clear HB; have HO_10 := n0_; have HO_12 := n1_; have HO_13 := n2_; have HO_14 := n3_; have HO254 := n4_; have HB := n5_; clear n0_ n1_ n2_ n3_ n4_ n5_; (try clear hb); (try clear hb2); (try clear hk); (try clear hi); (try clear ho0); obtain ⟨Ao45, co45, eo45⟩ := Kd.R_slice HO254.out; subst eo45) | ((with_reducible refine gate_callee (f := 13) rfl ?_); refine goesL_ (some 65) rfl rfl Try.func13 (by kernel_rfl) rfl #[.slice Ao23 t241.length co23, .slice Ao45 t252.length co45] rfl qG ?_; (with_reducible refine (laws_eqNodeS.calls kj14 _ _ t241 _ _ t252 true _ ?side1 ?side2 ?side3 ?side4 A36.out).mono ?_); (case side1 => repeat (first | exact (Kd.R_reads' HO_12.out).2.2 | (with_reducible refine Kd.C_alloc ?_ _) | (with_reducible refine Kd.C_drewN ?_ _) | (with_reducible refine Kd.C_drew ?_))); (case side2 => exact (Kd.R_reads' HO_12.out).2.1); (case side3 => repeat (first | exact (Kd.R_reads' HO254.out).2.2 | (with_reducible refine Kd.C_alloc ?_ _) | (with_reducible refine Kd.C_drewN ?_ _) | (with_reducible refine Kd.C_drew ?_))); (case side4 => exact (Kd.R_reads' HO254.out).2.1); rintro e w46 ⟨rfl, hb⟩; refine ⟨_, rfl, ?_⟩; have n0_ := Aside0.mk (Kd.R_below (qR HO_10.out) hb); have n1_ := Aside0.mk (Kd.R_below (qR HO_12.out) hb); have n2_ := Aside0.mk (Kd.S_below (by (with_reducible repeat (first | apply Kd.S_alloc | apply Kd.S_drewN | apply Kd.S_drew)); exact HO_13.out) hb); have n3_ := Aside0.mk (Kd.R_below (qR HO_14.out) hb); have n4_ := Aside0.mk (Kd.R_below (qR HO254.out) hb); have n5_ := Aside0.mk (below_step (qB) hb); clear HO_10; clear HO_12; clear HO_13; clear HO_14; clear HO254; clear HB; have HO_10 := n0_; have HO_12 := n1_; have HO_13 := n2_; have HO_14 := n3_; have HO254 := n4_; have HB := n5_; clear n0_ n1_ n2_ n3_ n4_ n5_; (try clear hb); (try clear hb2); (try clear hk); (try clear hi)) | ((with_reducible refine gate_callee (f := 11) rfl ?_); refine goesL_ (some 69) rfl rfl Try.func11 (by kernel_rfl) rfl #[.slice A3 l3.length c3] rfl qG ?_; (with_reducible refine (laws_toNodeSS.calls kj14 _ _ l3 t256 _ ?side1 ?side2 A38.out).mono ?_); (case side1 => exact qC (Kd.C_below HR3.out HB.out)); (case side2 => exact HC3.out); rintro e w47 ⟨v257, rfl, ho0, hb⟩; refine ⟨_, rfl, ?_⟩; have n0_ := Aside0.mk (Kd.R_below (qR HO_10.out) hb); have n1_ := Aside0.mk (Kd.R_below (qR HO_12.out) hb); have n2_ := Aside0.mk (Kd.S_elder' (by (with_reducible repeat (first | apply Kd.S_alloc | apply Kd.S_drewN | apply Kd.S_drew)); exact HO_13.out) (Kd.S_base ho0) hb); have n3_ := Aside0.mk (Kd.R_below (qR HO_14.out) hb); have n4_ := Aside0.mk (Kd.R_below (qR HO254.out) hb); have n5_ := Aside0.mk (Kd.S_lower (Kd.S_new' (Kd.S_new' (Kd.S_new' (Kd.S_new' (Kd.S_new' ho0 (Kd.R_lt (qR HO_10.out))) (Kd.R_lt (qR HO_12.out))) (Kd.S_lt (by (with_reducible repeat (first | apply Kd.S_alloc | apply Kd.S_drewN | apply Kd.S_drew)); exact HO_13.out))) (Kd.R_lt (qR HO_14.out))) (Kd.R_lt (qR HO254.out))) (below_size (qB))); have n6_ := Aside0.mk (below_step (qB) hb); clear HO_10; clear HO_12; clear HO_13; clear HO_14; clear HO254; clear HB; have HO_10 := n0_; have HO_12 := n1_; have HO_13 := n2_; have HO_14 := n3_; have HO254 := n4_; have HO258 := n5_; have HB := n6_; clear n0_ n1_ n2_ n3_ n4_ n5_ n6_; (try clear hb); (try clear hb2); (try clear hk); (try clear hi); (try clear ho0); obtain ⟨Ao48, co48, eo48⟩ := Kd.S_slice HO258.out; subst eo48) | ((with_reducible refine gate_callee (f := 14) rfl ?_); refine goesL_ (some 70) rfl rfl Try.func14 (by kernel_rfl) rfl #[.slice Ao24 t244.length co24, .slice Ao48 t256.length co48] rfl qG ?_; (with_reducible refine (laws_eqNodeSS.calls kj14 _ _ t244 _ _ t256 true _ ?side1 ?side2 ?side3 ?side4 A39.out).mono ?_); (case side1 => repeat (first | exact (Kd.S_reads' HO_13.out).2.2 | (with_reducible refine Kd.C_alloc ?_ _) | (with_reducible refine Kd.C_drewN ?_ _) | (with_reducible refine Kd.C_drew ?_))); (case side2 => exact (Kd.S_reads' HO_13.out).2.1); (case side3 => repeat (first | exact (Kd.S_reads' HO258.out).2.2 | (with_reducible refine Kd.C_alloc ?_ _) | (with_reducible refine Kd.C_drewN ?_ _) | (with_reducible refine Kd.C_drew ?_))); (case side4 => exact (Kd.S_reads' HO258.out).2.1); rintro e w49 ⟨rfl, hb⟩; refine ⟨_, rfl, ?_⟩; have n0_ := Aside0.mk (Kd.R_below (qR HO_10.out) hb); have n1_ := Aside0.mk (Kd.R_below (qR HO_12.out) hb); have n2_ := Aside0.mk (Kd.S_below (by (with_reducible repeat (first | apply Kd.S_alloc | apply Kd.S_drewN | apply Kd.S_drew)); exact HO_13.out) hb); have n3_ := Aside0.mk (Kd.R_below (qR HO_14.out) hb); have n4_ := Aside0.mk (Kd.R_below (qR HO254.out) hb); have n5_ := Aside0.mk (Kd.S_below (by (with_reducible repeat (first | apply Kd.S_alloc | apply Kd.S_drewN | apply Kd.S_drew)); exact HO258.out) hb); have n6_ := Aside0.mk (below_step (qB) hb); clear HO_10; clear HO_12; clear HO_13; clear HO_14; clear HO254; clear HO258; clear HB; have HO_10 := n0_; have HO_12 := n1_; have HO_13 := n2_; have HO_14 := n3_; have HO254 := n4_; have HO258 := n5_; have HB := n6_; clear n0_ n1_ n2_ n3_ n4_ n5_ n6_; (try clear hb); (try clear hb2); (try clear hk); (try clear hi)) | ((with_reducible refine gate_callee (f := 15) rfl ?_); refine goesL_ (some 74) rfl rfl Try.func15 (by kernel_rfl) rfl #[.slice Ao23 t241.length co23, .int .i64 1] rfl qG ?_; (with_reducible refine (laws_markNodeS.calls kj14 (fun k_ => some k_ = (.slice Ao23 t241.length co23 : Value).ownBlock) (.slice Ao23 t241.length co23) t241 1 t260 t261 w _ ?side1 ?side2 A41.out).mono ?_); (case side1 => repeat (first | (with_reducible first | exact HB.out | apply below_alloc | apply pw_below_drewN | apply below_drew1) | exact HB.out)); (case side2 => exact Kd.R_tight rfl HO_12.out); rintro e w50 ⟨rfl, hy0, hb, hkp⟩; refine ⟨_, rfl, ?_⟩; have n0_ := Aside0.mk (Kd.R_mono (ok' := fun k_ => some k_ ≠ (.slice Ao23 t241.length co23 : Value).ownBlock ∧ some k_ ≠ (v249 : Value).ownBlock ∧ some k_ ≠ (.slice Ao45 t252.length co45 : Value).ownBlock) (Kd.R_keptB (HO_10.out) hkp (fun k_ hk_ hs_ => (hk_.1.1) hs_)) (fun k_ hk_ => ⟨hk_.1.1.1, hk_.1.1.2, hk_.1.2⟩)); have n1_ := Aside0.mk (Kd.R_reok rfl hy0 (fun k_ e_ => HO_12.out.1 k_ e_)); have n2_ := Aside0.mk (Kd.S_mono (ok' := fun k_ => some k_ ≠ (v239 : Value).ownBlock ∧ some k_ ≠ (.slice Ao23 t241.length co23 : Value).ownBlock ∧ some k_ ≠ (v249 : Value).ownBlock ∧ some k_ ≠ (.slice Ao45 t252.length co45 : Value).ownBlock ∧ some k_ ≠ (.slice Ao48 t256.length co48 : Value).ownBlock) (Kd.S_keptB (HO_13.out) hkp (fun k_ hk_ hs_ => (hk_.1.1.2.1) hs_)) (fun k_ hk_ => ⟨hk_.1.1.1.1, hk_.1.1.1.2.1, hk_.1.1.1.2.2, hk_.1.1.2, hk_.1.2⟩)); have n3_ := Aside0.mk (Kd.R_mono (ok' := fun k_ => some k_ ≠ (v239 : Value).ownBlock ∧ some k_ ≠ (.slice Ao23 t241.length co23 : Value).ownBlock ∧ some k_ ≠ (.slice Ao45 t252.length co45 : Value).ownBlock) (Kd.R_keptB (HO_14.out) hkp (fun k_ hk_ hs_ => (hk_.1.2) hs_)) (fun k_ hk_ => ⟨hk_.1.1.1, hk_.1.1.2, hk_.1.2⟩)); have n4_ := Aside0.mk (Kd.R_mono (ok' := fun k_ => some k_ ≠ (v239 : Value).ownBlock ∧ some k_ ≠ (.slice Ao23 t241.length co23 : Value).ownBlock ∧ some k_ ≠ (v249 : Value).ownBlock) (Kd.R_keptB (HO254.out) hkp (fun k_ hk_ hs_ => (hk_.1.2) hs_)) (fun k_ hk_ => ⟨hk_.1.1.1.2, hk_.1.1.2, hk_.1.2⟩)); have n5_ := Aside0.mk (Kd.S_mono (ok' := fun k_ => some k_ ≠ (v239 : Value).ownBlock ∧ some k_ ≠ (.slice Ao23 t241.length co23 : Value).ownBlock ∧ some k_ ≠ (.slice Ao24 t244.length co24 : Value).ownBlock ∧ some k_ ≠ (v249 : Value).ownBlock ∧ some k_ ≠ (.slice Ao45 t252.length co45 : Value).ownBlock) (Kd.S_keptB (HO258.out) hkp (fun k_ hk_ hs_ => (hk_.1.1.1.2) hs_)) (fun k_ hk_ => ⟨hk_.1.1.1.1.1.2, hk_.1.1.1.1.2, hk_.1.1.1.2, hk_.1.1.2, hk_.1.2⟩)); have n6_ := Aside0.mk (hb); clear HO_10; clear HO_12; clear HO_13; clear HO_14; clear HO254; clear HO258; clear HB; have HO_10 := n0_; have HO_12 := n1_; have HO_13 := n2_; have HO_14 := n3_; have HO254 := n4_; have HO258 := n5_; have HB := n6_; clear n0_ n1_ n2_ n3_ n4_ n5_ n6_; (try clear hb); (try clear hkp); (try clear hy0)) | ((with_reducible refine gate_callee (f := 16) rfl ?_); refine goesL_ (some 77) rfl rfl Try.func16 (by kernel_rfl) rfl #[.slice Ao24 t244.length co24, .int .i64 t260] rfl qG ?_; (with_reducible refine (laws_markNodeSS.calls _ (.slice Ao24 t244.length co24) t244 t260 t262 w _ ?side1 (Kd.S_R (HO_13.out)) A42.out).mono ?_); (case side1 => repeat (first | (with_reducible first | exact HB.out | apply below_alloc | apply pw_below_drewN | apply below_drew1) | exact HB.out)); rintro e w51 ⟨rfl, hb, hkp⟩; refine ⟨_, rfl, ?_⟩; have n0_ := Aside0.mk (Kd.R_mono (ok' := fun k_ => some k_ ≠ (.slice Ao23 t241.length co23 : Value).ownBlock ∧ some k_ ≠ (v249 : Value).ownBlock ∧ some k_ ≠ (.slice Ao45 t252.length co45 : Value).ownBlock) (R_keepP rfl HO_10.out hkp (fun k_ e_ hs_ => absurd hs_.1 (by simp only [e_, ne_eq, not_true_eq_false, false_and, and_false, not_false_eq_true]))) (fun k_ hk_ => ⟨hk_.1, hk_.2.1, hk_.2.2⟩)); have n1_ := Aside0.mk (Kd.R_mono (ok' := fun k_ => some k_ ≠ (v239 : Value).ownBlock ∧ some k_ ≠ (v249 : Value).ownBlock ∧ some k_ ≠ (.slice Ao45 t252.length co45 : Value).ownBlock) (R_keepP rfl HO_12.out hkp (fun k_ e_ hs_ => absurd hs_.1 (by simp only [e_, ne_eq, not_true_eq_false, false_and, and_false, not_false_eq_true]))) (fun k_ hk_ => ⟨hk_.1.1, hk_.1.2, hk_.2⟩)); have n2_ := Aside0.mk (Kd.R_mono (ok' := fun k_ => some k_ ≠ (v239 : Value).ownBlock ∧ some k_ ≠ (.slice Ao23 t241.length co23 : Value).ownBlock ∧ some k_ ≠ (.slice Ao45 t252.length co45 : Value).ownBlock) (R_keepP rfl HO_14.out hkp (fun k_ e_ hs_ => absurd hs_.1 (by simp only [e_, ne_eq, not_true_eq_false, false_and, and_false, not_false_eq_true]))) (fun k_ hk_ => ⟨hk_.1, hk_.2.1, hk_.2.2⟩)); have n3_ := Aside0.mk (Kd.R_mono (ok' := fun k_ => some k_ ≠ (v239 : Value).ownBlock ∧ some k_ ≠ (.slice Ao23 t241.length co23 : Value).ownBlock ∧ some k_ ≠ (v249 : Value).ownBlock) (R_keepP rfl HO254.out hkp (fun k_ e_ hs_ => absurd hs_.1 (by simp only [e_, ne_eq, not_true_eq_false, false_and, and_false, not_false_eq_true]))) (fun k_ hk_ => ⟨hk_.1, hk_.2.1, hk_.2.2⟩)); have n5_ := Aside0.mk (hb); clear HO_10; clear HO_12; clear HO_14; clear HO254; clear HO258; clear HB; clear HO_13; have HO_10 := n0_; have HO_12 := n1_; have HO_14 := n2_; have HO254 := n3_; have HB := n5_; clear n0_ n1_ n2_ n3_ n5_; (try clear hb); (try clear hkp)))
        (try simp only [Act.put, List.setIfInBounds_toArray, List.set_cons_zero, List.set_cons_succ])
        go_cut [90] (fun v90 wc => ∃ (kq : Nat) (x90_42 : Bool), v90 = .bool x90_42 ∧ Aside0 (laws_FnExactPutAll.j1 kq a0 a1 l2 l3 t237 t238 t247 x90_42 = some true) ∧ Aside0 (kq ≤ kj14) ∧ Aside0 (Kd.R k52 52 wc w.heap.size (fun k_ => some k_ ≠ (v249 : Value).ownBlock) v239 t237) ∧ Aside0 (Kd.R k52 52 wc w.heap.size (fun k_ => some k_ ≠ (v239 : Value).ownBlock) v249 t247) ∧ Aside0 (Below w.heap.size w wc))
        case first =>
         have H := HC43.out
         clear HC43
         by_cases c52 : t262 < 0
         ·rw [if_pos c52] at H
          exact absurd H (by cases kj14 <;> simp [laws_FnExactPutAll.j1])
         ·rw [if_neg c52] at H
          have c52b0 : decide (t262 < 0) = false := decide_eq_false c52
          clear c52
          (first | rw [c52b0] | (simp only [i64_w, i32_w]; rw [c52b0]) | skip)
          replace H := Option.bind_eq_some_iff.mp H
          obtain ⟨t263, A530, H⟩ := H
          replace H : (if t263 = true then (laws_FnExactPutAll.j1 kj14 a0 a1 l2 l3 t237 t238 t247 (t248 != t238)) else (laws_FnExactPutAll.j1 kj14 a0 a1 l2 l3 t237 t238 t247 true)) = some true := H
          have A53 := Aside0.mk A530
          clear A530
          by_cases c54 : t263 = true
          ·subst c54
           have H1 : (laws_FnExactPutAll.j1 kj14 a0 a1 l2 l3 t237 t238 t247 (t248 != t238)) = some true := by rw [if_pos rfl] at H; exact H
           clear H
           have H := H1
           clear H1
           have H' := Aside0.mk H
           clear H
           obtain ⟨Ao55, co55, eo55⟩ := Kd.R_slice HO_14.out
           subst eo55
           obtain ⟨Ao56, co56, eo56⟩ := Kd.R_slice HO_10.out
           subst eo56
           go_wp2_with (first | (go_at_call 13; (with_reducible refine (laws_eqNodeS.calls kj14 _ _ t247 _ _ t237 true _ ?side1 ?side2 ?side3 ?side4 A53.out).mono ?_); (case side1 => repeat (first | exact (Kd.R_reads' HO_14.out).2.2 | (with_reducible refine Kd.C_alloc ?_ _) | (with_reducible refine Kd.C_drewN ?_ _) | (with_reducible refine Kd.C_drew ?_))); (case side2 => exact (Kd.R_reads' HO_14.out).2.1); (case side3 => repeat (first | exact (Kd.R_reads' HO_10.out).2.2 | (with_reducible refine Kd.C_alloc ?_ _) | (with_reducible refine Kd.C_drewN ?_ _) | (with_reducible refine Kd.C_drew ?_))); (case side4 => exact (Kd.R_reads' HO_10.out).2.1); rintro e w57 ⟨rfl, hb⟩; have n0_ := Aside0.mk (Kd.R_below (qR HO_10.out) hb); have n1_ := Aside0.mk (Kd.R_below (qR HO_12.out) hb); have n2_ := Aside0.mk (Kd.R_below (qR HO_14.out) hb); have n3_ := Aside0.mk (Kd.R_below (qR HO254.out) hb); have n5_ := Aside0.mk (below_step (qB) hb); clear HO_10; clear HO_12; clear HO_14; clear HO254; clear HB; have HO_10 := n0_; have HO_12 := n1_; have HO_14 := n2_; have HO254 := n3_; have HB := n5_; clear n0_ n1_ n2_ n3_ n5_; (try clear hb); (try clear hb2); (try clear hk); (try clear hi)))
           go_meet
           case rel => exact ⟨_, ((t248 != t238)), qS, H', ⟨by have := HJ14.out; first | omega | exact Nat.le_refl _⟩, ⟨by (with_reducible repeat (first | apply Kd.R_alloc | apply Kd.R_drewN | apply Kd.R_drew)); exact Kd.R_mono HO_10.out (fun _ hk => hk.2.1)⟩, ⟨by (with_reducible repeat (first | apply Kd.R_alloc | apply Kd.R_drewN | apply Kd.R_drew)); exact Kd.R_mono HO_14.out (fun _ hk => hk.1)⟩, ⟨qB⟩⟩
          ·replace c54 := Bool.eq_false_iff.mpr c54
           subst c54
           have H1 : (laws_FnExactPutAll.j1 kj14 a0 a1 l2 l3 t237 t238 t247 true) = some true := by rw [if_neg (show ¬ (false = true) by decide)] at H; exact H
           exact absurd H1 (by cases kj14 <;> simp [laws_FnExactPutAll.j1])
        case rest =>
         clear HC43
         try clear c1
         try clear c2
         try clear p2
         try clear c3
         try clear c4
         try clear c5
         try clear c6
         try clear c6b0
         try clear c7
         try clear c8
         try clear c8b0
         try clear c9
         try clear c10
         try clear c11
         try clear c12
         try clear c13
         try clear c14
         try clear c15
         try clear c16
         try clear c27
         try clear c34
         try clear c37
         try clear c40
         try clear c52
         try clear c52b0
         try clear c54
         try clear p2
         obtain ⟨kq, x90_42, rfl, HA, HJ42, HO_10, HO_14, HB⟩ := hcut
         cases kq with
         | zero => exact absurd HA.out (by simp [laws_FnExactPutAll.j1])
         | succ kj42 =>
          have H := HA.out
          clear HA
          simp only [laws_FnExactPutAll.j1] at H
          by_cases c61 : x90_42 = true
          ·subst c61
           have H1 : (some false) = some true := by rw [if_pos rfl] at H; exact H
           exact absurd H1 (by simp)
          ·replace c61 := Bool.eq_false_iff.mpr c61
           subst c61
           have H1 : ((laws_markNodeS.f kj42 t247 1).bind fun bt264 => ((laws_heldNodeS.f kj42 bt264.2 1).bind fun t266 => (if t266 < 0 then (some false) else (if t266 = bt264.1 then ((laws_toNodeS.f kj42 l2).bind fun t267 => ((laws_toNodeSS.f kj42 l3).bind fun t270 => ((impl_PutAll.f kj42 a0 a1 t267 t270).bind fun bt273 => ((laws_eqNodeS.f kj42 bt273.1 t237).bind fun t277 => (if t277 = true then (laws_FnExactPutAll.j2 kj42 bt264.2 bt264.1 (bt273.2 != t238)) else (laws_FnExactPutAll.j2 kj42 bt264.2 bt264.1 true)))))) else (some false))))) = some true := by rw [if_neg (show ¬ (false = true) by decide)] at H; exact H
           clear H
           have H := H1
           clear H1
           replace H := Option.bind_eq_some_iff.mp H
           obtain ⟨⟨t264, t265⟩, A620, H⟩ := H
           replace H : ((laws_heldNodeS.f kj42 t265 1).bind fun t266 => (if t266 < 0 then (some false) else (if t266 = t264 then ((laws_toNodeS.f kj42 l2).bind fun t267 => ((laws_toNodeSS.f kj42 l3).bind fun t270 => ((impl_PutAll.f kj42 a0 a1 t267 t270).bind fun bt273 => ((laws_eqNodeS.f kj42 bt273.1 t237).bind fun t277 => (if t277 = true then (laws_FnExactPutAll.j2 kj42 t265 t264 (bt273.2 != t238)) else (laws_FnExactPutAll.j2 kj42 t265 t264 true)))))) else (some false)))) = some true := H
           have A62 := Aside0.mk A620
           clear A620
           replace H := Option.bind_eq_some_iff.mp H
           obtain ⟨t266, A630, H⟩ := H
           replace H : (if t266 < 0 then (some false) else (if t266 = t264 then ((laws_toNodeS.f kj42 l2).bind fun t267 => ((laws_toNodeSS.f kj42 l3).bind fun t270 => ((impl_PutAll.f kj42 a0 a1 t267 t270).bind fun bt273 => ((laws_eqNodeS.f kj42 bt273.1 t237).bind fun t277 => (if t277 = true then (laws_FnExactPutAll.j2 kj42 t265 t264 (bt273.2 != t238)) else (laws_FnExactPutAll.j2 kj42 t265 t264 true)))))) else (some false))) = some true := H
           have A63 := Aside0.mk A630
           clear A630
           by_cases c64 : t266 < 0
           ·rw [if_pos c64] at H
            exact absurd H (by simp)
           ·rw [if_neg c64] at H
            have c64b0 : decide (t266 < 0) = false := decide_eq_false c64
            clear c64
            by_cases c67 : t266 = t264
            ·rw [if_pos c67] at H
             have c67b0 : (t266 == t264) = true := beq_iff_eq.mpr c67
             have c67b1 : (t266 != t264) = false := bne_eq_false_iff_eq.mpr c67
             clear c67
             replace H := Option.bind_eq_some_iff.mp H
             obtain ⟨t267, A680, H⟩ := H
             replace H : ((laws_toNodeSS.f kj42 l3).bind fun t270 => ((impl_PutAll.f kj42 a0 a1 t267 t270).bind fun bt273 => ((laws_eqNodeS.f kj42 bt273.1 t237).bind fun t277 => (if t277 = true then (laws_FnExactPutAll.j2 kj42 t265 t264 (bt273.2 != t238)) else (laws_FnExactPutAll.j2 kj42 t265 t264 true))))) = some true := H
             have A68 := Aside0.mk A680
             clear A680
             replace H := Option.bind_eq_some_iff.mp H
             obtain ⟨t270, A690, H⟩ := H
             replace H : ((impl_PutAll.f kj42 a0 a1 t267 t270).bind fun bt273 => ((laws_eqNodeS.f kj42 bt273.1 t237).bind fun t277 => (if t277 = true then (laws_FnExactPutAll.j2 kj42 t265 t264 (bt273.2 != t238)) else (laws_FnExactPutAll.j2 kj42 t265 t264 true)))) = some true := H
             have A69 := Aside0.mk A690
             clear A690
             replace H := Option.bind_eq_some_iff.mp H
             obtain ⟨⟨t273, t274⟩, A700, H⟩ := H
             replace H : ((laws_eqNodeS.f kj42 t273 t237).bind fun t277 => (if t277 = true then (laws_FnExactPutAll.j2 kj42 t265 t264 (t274 != t238)) else (laws_FnExactPutAll.j2 kj42 t265 t264 true))) = some true := H
             have A70 := Aside0.mk A700
             clear A700
             have HC71 := Aside0.mk H
             clear H
             obtain ⟨Ao72, co72, eo72⟩ := Kd.R_slice HO_14.out
             subst eo72
             go_upto_region 32 with (first | ((with_reducible refine gate_callee (f := 15) rfl ?_); refine goesL_ (some 93) rfl rfl Try.func15 (by kernel_rfl) rfl #[.slice Ao72 t247.length co72, .int .i64 1] rfl qG ?_; (with_reducible refine (laws_markNodeS.calls kj42 (fun k_ => some k_ = (.slice Ao72 t247.length co72 : Value).ownBlock) (.slice Ao72 t247.length co72) t247 1 t264 t265 w _ ?side1 ?side2 A62.out).mono ?_); (case side1 => repeat (first | (with_reducible first | exact HB.out | apply below_alloc | apply pw_below_drewN | apply below_drew1) | exact HB.out)); (case side2 => exact Kd.R_tight rfl HO_14.out); rintro e w73 ⟨rfl, hy0, hb, hkp⟩; refine ⟨_, rfl, ?_⟩; have n0_ := Aside0.mk (Kd.R_mono (ok' := fun k_ => some k_ ≠ (.slice Ao72 t247.length co72 : Value).ownBlock) (Kd.R_keptB (HO_10.out) hkp (fun k_ hk_ hs_ => (hk_) hs_)) (fun k_ hk_ => hk_.1)); have n1_ := Aside0.mk (Kd.R_reok rfl hy0 (fun k_ e_ => HO_14.out.1 k_ e_)); have n2_ := Aside0.mk (hb); clear HO_10; clear HO_14; clear HB; have HO_10 := n0_; have HO_14 := n1_; have HB := n2_; clear n0_ n1_ n2_; (try clear hb); (try clear hkp); (try clear hy0)) | ((with_reducible refine gate_callee (f := 17) rfl ?_); refine goesL_ (some 96) rfl rfl Try.func17 (by kernel_rfl) rfl #[.slice Ao72 t265.length co72, .int .i64 1] rfl (by (try simp only [List.map_toArray, List.map_cons, List.map_nil]); first | done | (rw [show t265.length = t247.length from (Kd.R_reads' HO_14.out).1.symm] <;> rfl) | rfl | (simp only [List.length_drop, List.length_take]; rfl)) ?_; (with_reducible refine (laws_heldNodeS.calls kj42 _ _ t265 1 t266 _ ?side1 ?side2 A63.out).mono ?_); (case side1 => repeat (first | exact (Kd.R_reads' HO_14.out).2.2 | (with_reducible refine Kd.C_alloc ?_ _) | (with_reducible refine Kd.C_drewN ?_ _) | (with_reducible refine Kd.C_drew ?_))); (case side2 => rw [show t265.length = t247.length from (Kd.R_reads' HO_14.out).1.symm]; exact (Kd.R_reads' HO_14.out).2.1); rintro e w' ⟨rfl, ⟨nd, rfl⟩⟩; refine ⟨_, rfl, ?_⟩) | ((with_reducible refine gate_callee (f := 10) rfl ?_); refine goesL_ (some 106) rfl rfl Try.func10 (by kernel_rfl) rfl #[.slice A2 l2.length c2] rfl qG ?_; (with_reducible refine (laws_toNodeS.calls kj42 _ _ l2 t267 _ ?side1 ?side2 A68.out).mono ?_); (case side1 => repeat (first | exact (Kd.C_below HR2.out (qB)) | (with_reducible refine Kd.C_alloc ?_ _) | (with_reducible refine Kd.C_drewN ?_ _) | (with_reducible refine Kd.C_drew ?_))); (case side2 => exact HC2.out); rintro e w74 ⟨v268, rfl, ho0, hb⟩; refine ⟨_, rfl, ?_⟩; have n0_ := Aside0.mk (Kd.R_elder' (qR HO_10.out) (Kd.R_base ho0) hb); have n1_ := Aside0.mk (Kd.R_elder' (qR HO_14.out) (Kd.R_base ho0) hb); have n2_ := Aside0.mk (Kd.R_lower (Kd.R_new' (Kd.R_new' ho0 (Kd.R_lt (qR HO_10.out))) (Kd.R_lt (qR HO_14.out))) (below_size (qB))); have n3_ := Aside0.mk (below_step (qB) hb); clear HO_10; clear HO_14; clear HB; have HO_10 := n0_; have HO_14 := n1_; have HO269 := n2_; have HB := n3_; clear n0_ n1_ n2_ n3_; (try clear hb); (try clear hb2); (try clear hk); (try clear hi); (try clear ho0)) | ((with_reducible refine gate_callee (f := 11) rfl ?_); refine goesL_ (some 108) rfl rfl Try.func11 (by kernel_rfl) rfl #[.slice A3 l3.length c3] rfl qG ?_; (with_reducible refine (laws_toNodeSS.calls kj42 _ _ l3 t270 _ ?side1 ?side2 A69.out).mono ?_); (case side1 => exact qC (Kd.C_below HR3.out HB.out)); (case side2 => exact HC3.out); rintro e w75 ⟨v271, rfl, ho0, hb⟩; refine ⟨_, rfl, ?_⟩; have n0_ := Aside0.mk (Kd.R_below (qR HO_10.out) hb); have n1_ := Aside0.mk (Kd.R_below (qR HO_14.out) hb); have n2_ := Aside0.mk (Kd.R_below (qR HO269.out) hb); have n3_ := Aside0.mk (Kd.S_lower (Kd.S_new' (Kd.S_new' (Kd.S_new' ho0 (Kd.R_lt (qR HO_10.out))) (Kd.R_lt (qR HO_14.out))) (Kd.R_lt (qR HO269.out))) (below_size (qB))); have n4_ := Aside0.mk (below_step (qB) hb); clear HO_10; clear HO_14; clear HO269; clear HB; have HO_10 := n0_; have HO_14 := n1_; have HO269 := n2_; have HO272 := n3_; have HB := n4_; clear n0_ n1_ n2_ n3_ n4_; (try clear hb); (try clear hb2); (try clear hk); (try clear hi); (try clear ho0); obtain ⟨Ao76, co76, eo76⟩ := Kd.R_slice HO269.out; subst eo76; obtain ⟨Ao77, co77, eo77⟩ := Kd.S_slice HO272.out; subst eo77) | ((with_reducible refine gate_callee (f := 12) rfl ?_); refine goesL_ (some 109) rfl rfl Try.func12 (by kernel_rfl) rfl #[.int .i64 a0, .int .i64 a1, .slice Ao76 t267.length co76, .slice Ao77 t270.length co77] rfl qG ?_; (with_reducible refine (impl_PutAll.calls kj42 a0 a1 _ _ t267 _ _ t270 t273 t274 _ ?side1 ?side2 ?side3 ?side4 A70.out).mono ?_); (case side1 => repeat (first | exact (Kd.R_reads' HO269.out).2.2 | (with_reducible refine Kd.C_alloc ?_ _) | (with_reducible refine Kd.C_drewN ?_ _) | (with_reducible refine Kd.C_drew ?_))); (case side2 => exact (Kd.R_reads' HO269.out).2.1); (case side3 => repeat (first | exact (Kd.S_reads' HO272.out).2.2 | (with_reducible refine Kd.C_alloc ?_ _) | (with_reducible refine Kd.C_drewN ?_ _) | (with_reducible refine Kd.C_drew ?_))); (case side4 => exact (Kd.S_reads' HO272.out).2.1); rintro e w78 ⟨v275, rfl, ho0, hb⟩; refine ⟨_, rfl, ?_⟩; have n0_ := Aside0.mk (Kd.R_elder' (qR HO_10.out) (Kd.R_base ho0) hb); have n1_ := Aside0.mk (Kd.R_elder' (qR HO_14.out) (Kd.R_base ho0) hb); have n2_ := Aside0.mk (Kd.R_elder' (qR HO269.out) (Kd.R_base ho0) hb); have n3_ := Aside0.mk (Kd.S_elder' (by (with_reducible repeat (first | apply Kd.S_alloc | apply Kd.S_drewN | apply Kd.S_drew)); exact HO272.out) (Kd.R_base ho0) hb); have n4_ := Aside0.mk (Kd.R_lower (Kd.R_new' (Kd.R_new' (Kd.R_new' ho0 (Kd.R_lt (qR HO_10.out))) (Kd.R_lt (qR HO_14.out))) (Kd.R_lt (qR HO269.out))) (below_size (qB))); have n5_ := Aside0.mk (below_step (qB) hb); clear HO_10; clear HO_14; clear HO269; clear HO272; clear HB; have HO_10 := n0_; have HO_14 := n1_; have HO269 := n2_; have HO272 := n3_; have HO276 := n4_; have HB := n5_; clear n0_ n1_ n2_ n3_ n4_ n5_; (try clear hb); (try clear hb2); (try clear hk); (try clear hi); (try clear ho0)))
             (try simp only [Act.put, List.setIfInBounds_toArray, List.set_cons_zero, List.set_cons_succ])
             go_cut [120] (fun v120 wc => ∃ (kq : Nat) (x120_70 : Bool), v120 = .bool x120_70 ∧ Aside0 (laws_FnExactPutAll.j2 kq t265 t264 x120_70 = some true) ∧ Aside0 (kq ≤ kj42) ∧ Aside0 (Kd.R k52 52 wc w.heap.size (fun _ => True) (.slice Ao72 t247.length co72) t265) ∧ Aside0 (Below w.heap.size w wc))
             case first =>
              have H := HC71.out
              clear HC71
              replace H := Option.bind_eq_some_iff.mp H
              obtain ⟨t277, A790, H⟩ := H
              replace H : (if t277 = true then (laws_FnExactPutAll.j2 kj42 t265 t264 (t274 != t238)) else (laws_FnExactPutAll.j2 kj42 t265 t264 true)) = some true := H
              have A79 := Aside0.mk A790
              clear A790
              by_cases c80 : t277 = true
              ·subst c80
               have H1 : (laws_FnExactPutAll.j2 kj42 t265 t264 (t274 != t238)) = some true := by rw [if_pos rfl] at H; exact H
               clear H
               have H := H1
               clear H1
               have H' := Aside0.mk H
               clear H
               obtain ⟨Ao81, co81, eo81⟩ := Kd.R_slice HO276.out
               subst eo81
               obtain ⟨Ao82, co82, eo82⟩ := Kd.R_slice HO_10.out
               subst eo82
               go_wp2_with (first | ((with_reducible refine gate_callee (f := 13) rfl ?_); refine goesL_ (some 114) rfl rfl Try.func13 (by kernel_rfl) rfl #[.slice Ao81 t273.length co81, .slice Ao82 t237.length co82] rfl qG ?_; (with_reducible refine (laws_eqNodeS.calls kj42 _ _ t273 _ _ t237 true _ ?side1 ?side2 ?side3 ?side4 A79.out).mono ?_); (case side1 => repeat (first | exact (Kd.R_reads' HO276.out).2.2 | (with_reducible refine Kd.C_alloc ?_ _) | (with_reducible refine Kd.C_drewN ?_ _) | (with_reducible refine Kd.C_drew ?_))); (case side2 => exact (Kd.R_reads' HO276.out).2.1); (case side3 => repeat (first | exact (Kd.R_reads' HO_10.out).2.2 | (with_reducible refine Kd.C_alloc ?_ _) | (with_reducible refine Kd.C_drewN ?_ _) | (with_reducible refine Kd.C_drew ?_))); (case side4 => exact (Kd.R_reads' HO_10.out).2.1); rintro e w83 ⟨rfl, hb⟩; refine ⟨_, rfl, ?_⟩; have n0_ := Aside0.mk (Kd.R_below (qR HO_10.out) hb); have n1_ := Aside0.mk (Kd.R_below (qR HO_14.out) hb); have n2_ := Aside0.mk (Kd.R_below (qR HO269.out) hb); have n3_ := Aside0.mk (Kd.S_below (by (with_reducible repeat (first | apply Kd.S_alloc | apply Kd.S_drewN | apply Kd.S_drew)); exact HO272.out) hb); have n4_ := Aside0.mk (Kd.R_below (qR HO276.out) hb); have n5_ := Aside0.mk (below_step (qB) hb); clear HO_10; clear HO_14; clear HO269; clear HO272; clear HO276; clear HB; have HO_10 := n0_; have HO_14 := n1_; have HO269 := n2_; have HO272 := n3_; have HO276 := n4_; have HB := n5_; clear n0_ n1_ n2_ n3_ n4_ n5_; (try clear hb); (try clear hb2); (try clear hk); (try clear hi)))
               go_meet
               case rel => exact ⟨_, ((t274 != t238)), qS, H', ⟨by have := HJ14.out; have := HJ42.out; first | omega | exact Nat.le_refl _⟩, ⟨by (with_reducible repeat (first | apply Kd.R_alloc | apply Kd.R_drewN | apply Kd.R_drew)); exact Kd.R_mono HO_14.out (fun _ hk => trivial)⟩, ⟨qB⟩⟩
              ·replace c80 := Bool.eq_false_iff.mpr c80
               subst c80
               have H1 : (laws_FnExactPutAll.j2 kj42 t265 t264 true) = some true := by rw [if_neg (show ¬ (false = true) by decide)] at H; exact H
               exact absurd H1 (by cases kj42 <;> simp [laws_FnExactPutAll.j2])
             case rest =>
              clear HC71
              try clear c1
              try clear c2
              try clear p2
              try clear c3
              try clear c4
              try clear c5
              try clear c6
              try clear c6b0
              try clear c7
              try clear c8
              try clear c8b0
              try clear c9
              try clear c10
              try clear c11
              try clear c12
              try clear c13
              try clear c14
              try clear c15
              try clear c16
              try clear c17
              try clear c27
              try clear c34
              try clear c37
              try clear c40
              try clear c52
              try clear c52b0
              try clear c54
              try clear c61
              try clear c64
              try clear c64b0
              try clear c67
              try clear c67b0
              try clear c67b1
              try clear c80
              try clear p2
              obtain ⟨kq, x120_70, rfl, HA, HJ70, HO_14, HB⟩ := hcut
              have hl14_70 := (Kd.R_reads' HO_14.out).1
              rw [hl14_70] at HO_14
              (try simp only [hl14_70])
              cases kq with
              | zero => exact absurd HA.out (by simp [laws_FnExactPutAll.j2])
              | succ kj70 =>
               have H := HA.out
               clear HA
               simp only [laws_FnExactPutAll.j2] at H
               by_cases c87 : x120_70 = true
               ·subst c87
                have H1 : (some false) = some true := by rw [if_pos rfl] at H; exact H
                exact absurd H1 (by simp)
               ·replace c87 := Bool.eq_false_iff.mpr c87
                subst c87
                have H1 : ((laws_heldNodeS.f kj70 t265 1).bind fun t278 => (if t278 < 0 then (some false) else (if t278 = t264 then (some true) else (some false)))) = some true := by rw [if_neg (show ¬ (false = true) by decide)] at H; exact H
                clear H
                have H := H1
                clear H1
                replace H := Option.bind_eq_some_iff.mp H
                obtain ⟨t278, A880, H⟩ := H
                replace H : (if t278 < 0 then (some false) else (if t278 = t264 then (some true) else (some false))) = some true := H
                have A88 := Aside0.mk A880
                clear A880
                by_cases c89 : t278 < 0
                ·rw [if_pos c89] at H
                 exact absurd H (by simp)
                ·rw [if_neg c89] at H
                 have c89b0 : decide (t278 < 0) = false := decide_eq_false c89
                 clear c89
                 by_cases c90 : t278 = t264
                 ·rw [if_pos c90] at H
                  have c90b0 : (t278 == t264) = true := beq_iff_eq.mpr c90
                  have c90b1 : (t278 != t264) = false := bne_eq_false_iff_eq.mpr c90
                  clear c90
                  go_wp2_with (first | ((with_reducible refine gate_callee (f := 17) rfl ?_); refine goesL_ (some 123) rfl rfl Try.func17 (by kernel_rfl) rfl #[.slice Ao72 t265.length co72, .int .i64 1] rfl qG ?_; (with_reducible refine (laws_heldNodeS.calls kj70 _ _ t265 1 t278 _ ?side1 ?side2 A88.out).mono ?_); (case side1 => repeat (first | exact (Kd.R_reads' HO_14.out).2.2 | (with_reducible refine Kd.C_alloc ?_ _) | (with_reducible refine Kd.C_drewN ?_ _) | (with_reducible refine Kd.C_drew ?_))); (case side2 => exact (Kd.R_reads' HO_14.out).2.1); rintro e w' ⟨rfl, ⟨nd, rfl⟩⟩; refine ⟨_, rfl, ?_⟩))
                  go_ret
                  exact ⟨qE, qB⟩
                 ·rw [if_neg c90] at H
                  exact absurd H (by simp)
            ·rw [if_neg c67] at H
             exact absurd H (by simp)
       ·replace c40 := Bool.eq_false_iff.mpr c40
        subst c40
        have H1 : (some false) = some true := by rw [if_neg (show ¬ (false = true) by decide)] at H; exact H
        exact absurd H1 (by simp)
      ·replace c37 := Bool.eq_false_iff.mpr c37
       subst c37
       have H1 : (some false) = some true := by rw [if_neg (show ¬ (false = true) by decide)] at H; exact H
       exact absurd H1 (by simp)
/-- THE PURE STATEMENT of laws_FnExactPutAll. -/
def laws_FnExactPutAll.Pure : Prop := ∀ (a0 : Int) (a1 : Int) (l2 : List (S54)) (l3 : List (List (S54))), (Lit.int .i64 a0).wf = true → (Lit.int .i64 a1).wf = true → ((l2).length ≤ maxLen ∧ ∀ y ∈ l2, wf54 y) → ((l3).length ≤ maxLen ∧ ∀ y ∈ l3, ((y).length ≤ maxLen ∧ ∀ y_ ∈ y, wf54 y_)) → ∃ k, laws_FnExactPutAll.f k a0 a1 l2 l3 = some true
theorem laws_FnExactPutAll.walk (P : laws_FnExactPutAll.Pure) (a0 : Int) (a1 : Int) (A2 : Option Addr) (c2 : Nat) (l2 : List (S54)) (A3 : Option Addr) (c3 : Nat) (l3 : List (List (S54))) (w : World) (hr2 : Kd.C k54 w A2 l2.length l2) (hc2 : l2.length ≤ c2) (hr3 : Kd.C (Kd.slice 54 k54) w A3 l3.length l3) (hc3 : l3.length ≤ c3) (w0 : (Lit.int .i64 a0).wf = true) (w1 : (Lit.int .i64 a1).wf = true) (w2 : ((l2).length ≤ maxLen ∧ ∀ y ∈ l2, wf54 y)) (w3 : ((l3).length ≤ maxLen ∧ ∀ y ∈ l3, ((y).length ≤ maxLen ∧ ∀ y_ ∈ y, wf54 y_))) :
  Calls Try.prog 3 #[.int .i64 a0, .int .i64 a1, .slice A2 l2.length c2, .slice A3 l3.length c3] w fun e w' => e = .returned (.bool true) ∧ Below w.heap.size w w' := by
 obtain ⟨k, h⟩ := P a0 a1 l2 l3 w0 w1 w2 w3
 refine (laws_FnExactPutAll.calls k a0 a1 A2 c2 l2 A3 c3 l3 true w hr2 hc2 hr3 hc3 h).mono ?_
 rintro e w' ⟨rfl, hd⟩
 exact ⟨rfl, hd⟩

end Go.Proofs.Ytckdgmbmjfhodaa.X
