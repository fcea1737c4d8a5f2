/- Each Go function as a Lean function, with the proof that the call comes to just its answer; or a law's row out of its pure statement. Conditions: the arguments are of their kinds. Written by this session's program wip/xp/xp.sh. -/
import Derived.Test.YtckgeanmljmhfaaX0
import Derived.Test.YtckgeanmljmhfaaX1
import Derived.Test.YtckgeanmljmhfaaX20
import Derived.Test.YtckgeanmljmhfaaX44
import Derived.Test.YtckgeanmljmhfaaX46
import Derived.Test.YtckgeanmljmhfaaX47
import Derived.Test.YtckgeanmljmhfaaX49
import Derived.Test.YtckgeanmljmhfaaXO
namespace Go.Proofs.Ytckgeanmljmhfaa.X
open Go.RowKit Go.Proofs.YtckgeanmljmhfaaW.PrintWords Go.Proofs.YtckgeanmljmhfaaW.PrintLast Go.Proofs.YtckgeanmljmhfaaW.PrintMore
attribute [local go_sem] max2_int min2_int max_two min_two max_three min_three max_four min_four   -- for this text's walks alone
set_option linter.unusedVariables false
set_option linter.unusedSimpArgs false

/-! ### laws_FnExactGatesFor: function 3 -/
mutual
def laws_FnExactGatesFor.j0 : Nat → Int → Int → List (S65) → Bool → List (S63) → Bool → Bool → Int → List (S93) → List Int → Int → List (S93) → List Int → Option (Bool)
 | 0, _, _, _, _, _, _, _, _, _, _, _, _, _ => none
 | k + 1, x0, x1, x2, x9, x10, x12, x48, x290000, x290001, x290002, x302000, x302001, x302002 => if x48 = true then (some false) else ((laws_toNodeS.f k x2).bind fun t303 => ((laws_eqNodeS.f k x10 t303).bind fun t306 => (if t306 = true then ((laws_markNodeS.f k x10 1).bind fun bt307 => (if bt307.1 < 0 then (laws_FnExactGatesFor.j1 k x0 x1 x2 x9 true x290000 x290001 x290002 x302000 x302001 x302002) else ((laws_eqCircuit.f k x302000 x302001 x302002 x290000 x290001 x290002).bind fun t309 => (if t309 = true then (laws_FnExactGatesFor.j1 k x0 x1 x2 x9 (x12 != x9) x290000 x290001 x290002 x302000 x302001 x302002) else (laws_FnExactGatesFor.j1 k x0 x1 x2 x9 true x290000 x290001 x290002 x302000 x302001 x302002))))) else (some false))))
def laws_FnExactGatesFor.j1 : Nat → Int → Int → List (S65) → Bool → Bool → Int → List (S93) → List Int → Int → List (S93) → List Int → Option (Bool)
 | 0, _, _, _, _, _, _, _, _, _, _, _ => none
 | k + 1, x0, x1, x2, x9, x69, x290000, x290001, x290002, x302000, x302001, x302002 => if x69 = true then (some false) else ((laws_markCircuit.f k x302000 x302001 x302002 1).bind fun bt310 => ((laws_heldCircuit.f k x302000 bt310.2.1 bt310.2.2 1).bind fun t313 => (if t313 < 0 then (some false) else (if t313 = bt310.1 then ((laws_toNodeS.f k x2).bind fun t314 => ((impl_GatesFor.f k x0 x1 t314).bind fun bt317 => ((laws_eqCircuit.f k bt317.1 bt317.2.1 bt317.2.2.1 x290000 x290001 x290002).bind fun t326 => (if t326 = true then (laws_FnExactGatesFor.j2 k bt310.1 (bt317.2.2.2 != x9) x302000 bt310.2.1 bt310.2.2) else (laws_FnExactGatesFor.j2 k bt310.1 true x302000 bt310.2.1 bt310.2.2))))) else (some false)))))
def laws_FnExactGatesFor.j2 : Nat → Int → Bool → Int → List (S93) → List Int → Option (Bool)
 | 0, _, _, _, _, _ => none
 | k + 1, x14, x97, x302000, x302001, x302002 => if x97 = true then (some false) else ((laws_heldCircuit.f k x302000 x302001 x302002 1).bind fun t327 => (if t327 < 0 then (some false) else (if t327 = x14 then (some true) else (some false))))
end
def laws_FnExactGatesFor.f (k : Nat) (a0 : Int) (a1 : Int) (l2 : List (S65)) : Option (Bool) := (laws_szNodeS.f l2 1048576).bind fun t277 => (if t277 < 0 then (some true) else ((laws_toNodeS.f k l2).bind fun t278 => ((spec_GatesFor.f k a0 a1 t278).bind fun bt281 => ((laws_toNodeS.f k l2).bind fun t290 => ((impl_GatesFor.f k a0 a1 t290).bind fun bt293 => ((laws_eqCircuit.f k bt293.1 bt293.2.1 bt293.2.2.1 bt281.1 bt281.2.1 bt281.2.2.1).bind fun t302 => (if t302 = true then (laws_FnExactGatesFor.j0 k a0 a1 l2 bt281.2.2.2 t290 bt293.2.2.2 (bt293.2.2.2 != bt281.2.2.2) bt281.1 bt281.2.1 bt281.2.2.1 bt293.1 bt293.2.1 bt293.2.2.1) else (laws_FnExactGatesFor.j0 k a0 a1 l2 bt281.2.2.2 t290 bt293.2.2.2 true bt281.1 bt281.2.1 bt281.2.2.1 bt293.1 bt293.2.1 bt293.2.2.1))))))))
theorem laws_FnExactGatesFor.mono_l : ∀ k, (∀ y0 y1 y2 y3 y4 y5 y6 y7 y8 y9 y10 y11 y12, LeO (laws_FnExactGatesFor.j0 k y0 y1 y2 y3 y4 y5 y6 y7 y8 y9 y10 y11 y12) (laws_FnExactGatesFor.j0 (k + 1) y0 y1 y2 y3 y4 y5 y6 y7 y8 y9 y10 y11 y12)) ∧ (∀ y0 y1 y2 y3 y4 y5 y6 y7 y8 y9 y10, LeO (laws_FnExactGatesFor.j1 k y0 y1 y2 y3 y4 y5 y6 y7 y8 y9 y10) (laws_FnExactGatesFor.j1 (k + 1) y0 y1 y2 y3 y4 y5 y6 y7 y8 y9 y10)) ∧ (∀ y0 y1 y2 y3 y4, LeO (laws_FnExactGatesFor.j2 k y0 y1 y2 y3 y4) (laws_FnExactGatesFor.j2 (k + 1) y0 y1 y2 y3 y4))
 | 0 => ⟨fun _ _ _ _ _ _ _ _ _ _ _ _ _ r h => by simp [laws_FnExactGatesFor.j0] at h, fun _ _ _ _ _ _ _ _ _ _ _ r h => by simp [laws_FnExactGatesFor.j1] at h, fun _ _ _ _ _ r h => by simp [laws_FnExactGatesFor.j2] at h⟩
 | k + 1 => by
  obtain ⟨ih0, ih1, ih2⟩ := laws_FnExactGatesFor.mono_l k
  refine ⟨?_, ?_, ?_⟩
  ·intro y0 y1 y2 y3 y4 y5 y6 y7 y8 y9 y10 y11 y12
   unfold laws_FnExactGatesFor.j0
   repeat' first
   | (with_reducible exact ih0 _ _ _ _ _ _ _ _ _ _ _ _ _)
   | (with_reducible exact ih1 _ _ _ _ _ _ _ _ _ _ _)
   | (with_reducible exact ih2 _ _ _ _ _)
   | (with_reducible exact impl_GatesFor.mono _ _ _ _)
   | (with_reducible exact laws_eqCircuit.mono _ _ _ _ _ _ _)
   | (with_reducible exact laws_eqNodeS.mono _ _ _)
   | (with_reducible exact laws_heldCircuit.mono _ _ _ _ _)
   | (with_reducible exact laws_markCircuit.mono _ _ _ _ _)
   | (with_reducible exact laws_markNodeS.mono _ _ _)
   | (with_reducible exact laws_toNodeS.mono _ _)
   | (with_reducible exact spec_GatesFor.mono _ _ _ _)
   | (with_reducible exact LeO.refl _)
   | (with_reducible exact LeO.none _)
   | (with_reducible refine LeO.ite ?_ ?_)
   | (with_reducible refine LeO.bind ?_ (fun _ => ?_))
   | exact ih0 _ _ _ _ _ _ _ _ _ _ _ _ _
   | exact ih1 _ _ _ _ _ _ _ _ _ _ _
   | exact ih2 _ _ _ _ _
   | exact impl_GatesFor.mono _ _ _ _
   | exact laws_eqCircuit.mono _ _ _ _ _ _ _
   | exact laws_eqNodeS.mono _ _ _
   | exact laws_heldCircuit.mono _ _ _ _ _
   | exact laws_markCircuit.mono _ _ _ _ _
   | exact laws_markNodeS.mono _ _ _
   | exact laws_toNodeS.mono _ _
   | exact spec_GatesFor.mono _ _ _ _
   | exact LeO.none _
   | refine LeO.ite ?_ ?_
   | refine LeO.bind ?_ (fun _ => ?_)
  ·intro y0 y1 y2 y3 y4 y5 y6 y7 y8 y9 y10
   unfold laws_FnExactGatesFor.j1
   repeat' first
   | (with_reducible exact ih0 _ _ _ _ _ _ _ _ _ _ _ _ _)
   | (with_reducible exact ih1 _ _ _ _ _ _ _ _ _ _ _)
   | (with_reducible exact ih2 _ _ _ _ _)
   | (with_reducible exact impl_GatesFor.mono _ _ _ _)
   | (with_reducible exact laws_eqCircuit.mono _ _ _ _ _ _ _)
   | (with_reducible exact laws_eqNodeS.mono _ _ _)
   | (with_reducible exact laws_heldCircuit.mono _ _ _ _ _)
   | (with_reducible exact laws_markCircuit.mono _ _ _ _ _)
   | (with_reducible exact laws_markNodeS.mono _ _ _)
   | (with_reducible exact laws_toNodeS.mono _ _)
   | (with_reducible exact spec_GatesFor.mono _ _ _ _)
   | (with_reducible exact LeO.refl _)
   | (with_reducible exact LeO.none _)
   | (with_reducible refine LeO.ite ?_ ?_)
   | (with_reducible refine LeO.bind ?_ (fun _ => ?_))
   | exact ih0 _ _ _ _ _ _ _ _ _ _ _ _ _
   | exact ih1 _ _ _ _ _ _ _ _ _ _ _
   | exact ih2 _ _ _ _ _
   | exact impl_GatesFor.mono _ _ _ _
   | exact laws_eqCircuit.mono _ _ _ _ _ _ _
   | exact laws_eqNodeS.mono _ _ _
   | exact laws_heldCircuit.mono _ _ _ _ _
   | exact laws_markCircuit.mono _ _ _ _ _
   | exact laws_markNodeS.mono _ _ _
   | exact laws_toNodeS.mono _ _
   | exact spec_GatesFor.mono _ _ _ _
   | exact LeO.none _
   | refine LeO.ite ?_ ?_
   | refine LeO.bind ?_ (fun _ => ?_)
  ·intro y0 y1 y2 y3 y4
   unfold laws_FnExactGatesFor.j2
   repeat' first
   | (with_reducible exact ih0 _ _ _ _ _ _ _ _ _ _ _ _ _)
   | (with_reducible exact ih1 _ _ _ _ _ _ _ _ _ _ _)
   | (with_reducible exact ih2 _ _ _ _ _)
   | (with_reducible exact impl_GatesFor.mono _ _ _ _)
   | (with_reducible exact laws_eqCircuit.mono _ _ _ _ _ _ _)
   | (with_reducible exact laws_eqNodeS.mono _ _ _)
   | (with_reducible exact laws_heldCircuit.mono _ _ _ _ _)
   | (with_reducible exact laws_markCircuit.mono _ _ _ _ _)
   | (with_reducible exact laws_markNodeS.mono _ _ _)
   | (with_reducible exact laws_toNodeS.mono _ _)
   | (with_reducible exact spec_GatesFor.mono _ _ _ _)
   | (with_reducible exact LeO.refl _)
   | (with_reducible exact LeO.none _)
   | (with_reducible refine LeO.ite ?_ ?_)
   | (with_reducible refine LeO.bind ?_ (fun _ => ?_))
   | exact ih0 _ _ _ _ _ _ _ _ _ _ _ _ _
   | exact ih1 _ _ _ _ _ _ _ _ _ _ _
   | exact ih2 _ _ _ _ _
   | exact impl_GatesFor.mono _ _ _ _
   | exact laws_eqCircuit.mono _ _ _ _ _ _ _
   | exact laws_eqNodeS.mono _ _ _
   | exact laws_heldCircuit.mono _ _ _ _ _
   | exact laws_markCircuit.mono _ _ _ _ _
   | exact laws_markNodeS.mono _ _ _
   | exact laws_toNodeS.mono _ _
   | exact spec_GatesFor.mono _ _ _ _
   | exact LeO.none _
   | refine LeO.ite ?_ ?_
   | refine LeO.bind ?_ (fun _ => ?_)
theorem laws_FnExactGatesFor.mono : ∀ a0 a1 a2 k, LeO (laws_FnExactGatesFor.f k a0 a1 a2) (laws_FnExactGatesFor.f (k + 1) a0 a1 a2) := by
 intro a0 a1 a2 k
 obtain ⟨ih0, ih1, ih2⟩ := laws_FnExactGatesFor.mono_l k
 unfold laws_FnExactGatesFor.f
 repeat' first
   | (with_reducible exact ih0 _ _ _ _ _ _ _ _ _ _ _ _ _)
   | (with_reducible exact ih1 _ _ _ _ _ _ _ _ _ _ _)
   | (with_reducible exact ih2 _ _ _ _ _)
   | (with_reducible exact impl_GatesFor.mono _ _ _ _)
   | (with_reducible exact laws_eqCircuit.mono _ _ _ _ _ _ _)
   | (with_reducible exact laws_eqNodeS.mono _ _ _)
   | (with_reducible exact laws_heldCircuit.mono _ _ _ _ _)
   | (with_reducible exact laws_markCircuit.mono _ _ _ _ _)
   | (with_reducible exact laws_markNodeS.mono _ _ _)
   | (with_reducible exact laws_toNodeS.mono _ _)
   | (with_reducible exact spec_GatesFor.mono _ _ _ _)
   | (with_reducible exact LeO.refl _)
   | (with_reducible exact LeO.none _)
   | (with_reducible refine LeO.ite ?_ ?_)
   | (with_reducible refine LeO.bind ?_ (fun _ => ?_))
   | exact ih0 _ _ _ _ _ _ _ _ _ _ _ _ _
   | exact ih1 _ _ _ _ _ _ _ _ _ _ _
   | exact ih2 _ _ _ _ _
   | exact impl_GatesFor.mono _ _ _ _
   | exact laws_eqCircuit.mono _ _ _ _ _ _ _
   | exact laws_eqNodeS.mono _ _ _
   | exact laws_heldCircuit.mono _ _ _ _ _
   | exact laws_markCircuit.mono _ _ _ _ _
   | exact laws_markNodeS.mono _ _ _
   | exact laws_toNodeS.mono _ _
   | exact spec_GatesFor.mono _ _ _ _
   | exact LeO.none _
   | refine LeO.ite ?_ ?_
   | refine LeO.bind ?_ (fun _ => ?_)
set_option maxHeartbeats 8000000 in
set_option maxRecDepth 100000 in
theorem laws_FnExactGatesFor.calls (k : Nat) (a0 : Int) (a1 : Int) (A2 : Option Addr) (c2 : Nat) (l2 : List (S65)) (r : Bool) (w : World) (hr2 : Kd.C k65 w A2 l2.length l2) (hc2 : l2.length ≤ c2) (h : laws_FnExactGatesFor.f k a0 a1 l2 = some r) :
  Calls Try.prog 3 #[.int .i64 a0, .int .i64 a1, .slice A2 l2.length c2] w fun e w' => e = .returned (.bool r) ∧ Below w.heap.size w w' := by
 have hu27 := Try.underlying27
 have HR2 := Aside0.mk hr2
 have HC2 := Aside0.mk hc2
 clear hr2 hc2
 have HB := Aside0.mk (Below.refl w.heap.size w)
 have H : ((laws_szNodeS.f l2 1048576).bind fun t277 => (if t277 < 0 then (some true) else ((laws_toNodeS.f k l2).bind fun t278 => ((spec_GatesFor.f k a0 a1 t278).bind fun bt281 => ((laws_toNodeS.f k l2).bind fun t290 => ((impl_GatesFor.f k a0 a1 t290).bind fun bt293 => ((laws_eqCircuit.f k bt293.1 bt293.2.1 bt293.2.2.1 bt281.1 bt281.2.1 bt281.2.2.1).bind fun t302 => (if t302 = true then (laws_FnExactGatesFor.j0 k a0 a1 l2 bt281.2.2.2 t290 bt293.2.2.2 (bt293.2.2.2 != bt281.2.2.2) bt281.1 bt281.2.1 bt281.2.2.1 bt293.1 bt293.2.1 bt293.2.2.1) else (laws_FnExactGatesFor.j0 k a0 a1 l2 bt281.2.2.2 t290 bt293.2.2.2 true bt281.1 bt281.2.1 bt281.2.2.1 bt293.1 bt293.2.1 bt293.2.2.1))))))))) = some r := h
 clear h
 replace H := Option.bind_eq_some_iff.mp H
 obtain ⟨t277, A40, H⟩ := H
 replace H : (if t277 < 0 then (some true) else ((laws_toNodeS.f k l2).bind fun t278 => ((spec_GatesFor.f k a0 a1 t278).bind fun bt281 => ((laws_toNodeS.f k l2).bind fun t290 => ((impl_GatesFor.f k a0 a1 t290).bind fun bt293 => ((laws_eqCircuit.f k bt293.1 bt293.2.1 bt293.2.2.1 bt281.1 bt281.2.1 bt281.2.2.1).bind fun t302 => (if t302 = true then (laws_FnExactGatesFor.j0 k a0 a1 l2 bt281.2.2.2 t290 bt293.2.2.2 (bt293.2.2.2 != bt281.2.2.2) bt281.1 bt281.2.1 bt281.2.2.1 bt293.1 bt293.2.1 bt293.2.2.1) else (laws_FnExactGatesFor.j0 k a0 a1 l2 bt281.2.2.2 t290 bt293.2.2.2 true bt281.1 bt281.2.1 bt281.2.2.1 bt293.1 bt293.2.1 bt293.2.2.1)))))))) = some r := H
 have A4 := Aside0.mk A40
 clear A40
 by_cases c5 : t277 < 0
 ·rw [if_pos c5] at H
  have c5b0 : decide (t277 < 0) = true := decide_eq_true c5
  clear c5
  obtain rfl := Option.some.inj H
  go_enter Try.func3, Try.ntmps3
  go_wp2_with (first | ((with_reducible refine gate_callee (f := 8) rfl ?_); refine goesL_ (some 20) rfl rfl Try.func8 (by kernel_rfl) rfl #[.slice A2 l2.length c2, .int .i64 1048576] rfl qG ?_; (with_reducible refine (laws_szNodeS.calls _ _ l2 1048576 t277 _ ?side1 ?side2 A4.out).mono ?_); (case side1 => exact qC HR2.out); (case side2 => exact HC2.out); rintro e w' ⟨rfl, ⟨nd, rfl⟩⟩; refine ⟨_, rfl, ?_⟩))
  go_ret
  exact ⟨qE, qB⟩
 ·rw [if_neg c5] at H
  have c5b0 : decide (t277 < 0) = false := decide_eq_false c5
  clear c5
  replace H := Option.bind_eq_some_iff.mp H
  obtain ⟨t278, A60, H⟩ := H
  replace H : ((spec_GatesFor.f k a0 a1 t278).bind fun bt281 => ((laws_toNodeS.f k l2).bind fun t290 => ((impl_GatesFor.f k a0 a1 t290).bind fun bt293 => ((laws_eqCircuit.f k bt293.1 bt293.2.1 bt293.2.2.1 bt281.1 bt281.2.1 bt281.2.2.1).bind fun t302 => (if t302 = true then (laws_FnExactGatesFor.j0 k a0 a1 l2 bt281.2.2.2 t290 bt293.2.2.2 (bt293.2.2.2 != bt281.2.2.2) bt281.1 bt281.2.1 bt281.2.2.1 bt293.1 bt293.2.1 bt293.2.2.1) else (laws_FnExactGatesFor.j0 k a0 a1 l2 bt281.2.2.2 t290 bt293.2.2.2 true bt281.1 bt281.2.1 bt281.2.2.1 bt293.1 bt293.2.1 bt293.2.2.1)))))) = some r := H
  have A6 := Aside0.mk A60
  clear A60
  replace H := Option.bind_eq_some_iff.mp H
  obtain ⟨⟨t281, t282, t285, t288⟩, A70, H⟩ := H
  replace H : ((laws_toNodeS.f k l2).bind fun t290 => ((impl_GatesFor.f k a0 a1 t290).bind fun bt293 => ((laws_eqCircuit.f k bt293.1 bt293.2.1 bt293.2.2.1 t281 t282 t285).bind fun t302 => (if t302 = true then (laws_FnExactGatesFor.j0 k a0 a1 l2 t288 t290 bt293.2.2.2 (bt293.2.2.2 != t288) t281 t282 t285 bt293.1 bt293.2.1 bt293.2.2.1) else (laws_FnExactGatesFor.j0 k a0 a1 l2 t288 t290 bt293.2.2.2 true t281 t282 t285 bt293.1 bt293.2.1 bt293.2.2.1))))) = some r := H
  have A7 := Aside0.mk A70
  clear A70
  replace H := Option.bind_eq_some_iff.mp H
  obtain ⟨t290, A80, H⟩ := H
  replace H : ((impl_GatesFor.f k a0 a1 t290).bind fun bt293 => ((laws_eqCircuit.f k bt293.1 bt293.2.1 bt293.2.2.1 t281 t282 t285).bind fun t302 => (if t302 = true then (laws_FnExactGatesFor.j0 k a0 a1 l2 t288 t290 bt293.2.2.2 (bt293.2.2.2 != t288) t281 t282 t285 bt293.1 bt293.2.1 bt293.2.2.1) else (laws_FnExactGatesFor.j0 k a0 a1 l2 t288 t290 bt293.2.2.2 true t281 t282 t285 bt293.1 bt293.2.1 bt293.2.2.1)))) = some r := H
  have A8 := Aside0.mk A80
  clear A80
  replace H := Option.bind_eq_some_iff.mp H
  obtain ⟨⟨t293, t294, t297, t300⟩, A90, H⟩ := H
  replace H : ((laws_eqCircuit.f k t293 t294 t297 t281 t282 t285).bind fun t302 => (if t302 = true then (laws_FnExactGatesFor.j0 k a0 a1 l2 t288 t290 t300 (t300 != t288) t281 t282 t285 t293 t294 t297) else (laws_FnExactGatesFor.j0 k a0 a1 l2 t288 t290 t300 true t281 t282 t285 t293 t294 t297))) = some r := H
  have A9 := Aside0.mk A90
  clear A90
  have HC10 := Aside0.mk H
  clear H
  go_enter Try.func3, Try.ntmps3
  go_upto_region 8 with (first | ((with_reducible refine gate_callee (f := 8) rfl ?_); refine goesL_ (some 20) rfl rfl Try.func8 (by kernel_rfl) rfl #[.slice A2 l2.length c2, .int .i64 1048576] rfl qG ?_; (with_reducible refine (laws_szNodeS.calls _ _ l2 1048576 t277 _ ?side1 ?side2 A4.out).mono ?_); (case side1 => exact qC HR2.out); (case side2 => exact HC2.out); rintro e w' ⟨rfl, ⟨nd, rfl⟩⟩; refine ⟨_, rfl, ?_⟩) | ((with_reducible refine gate_callee (f := 10) rfl ?_); refine goesL_ (some 27) rfl rfl Try.func10 (by kernel_rfl) rfl #[.slice A2 l2.length c2] rfl qG ?_; (with_reducible refine (laws_toNodeS.calls k _ _ l2 t278 _ ?side1 ?side2 A6.out).mono ?_); (case side1 => exact qC HR2.out); (case side2 => exact HC2.out); rintro e w11 ⟨v279, rfl, ho0, hb⟩; refine ⟨_, rfl, ?_⟩; have n0_ := Aside0.mk (Kd.R_lower ho0 (below_size (qB))); have n1_ := Aside0.mk (below_step (qB) hb); clear HB; have HO280 := n0_; have HB := n1_; clear n0_ n1_; (try clear hb); (try clear hb2); (try clear hk); (try clear hi); (try clear ho0); obtain ⟨Ao12, co12, eo12⟩ := Kd.R_slice HO280.out; subst eo12) | ((with_reducible refine gate_callee (f := 9) rfl ?_); refine goesL_ (some 28) rfl rfl Try.func9 (by kernel_rfl) rfl #[.int .i64 a0, .int .i64 a1, .slice Ao12 t278.length co12] rfl qG ?_; (with_reducible refine (spec_GatesFor.calls k a0 a1 _ _ t278 t281 t282 t285 t288 _ ?side1 ?side2 A7.out).mono ?_); (case side1 => repeat (first | exact (Kd.R_reads' HO280.out).2.2 | (with_reducible refine Kd.C_alloc ?_ _) | (with_reducible refine Kd.C_drewN ?_ _) | (with_reducible refine Kd.C_drew ?_))); (case side2 => exact (Kd.R_reads' HO280.out).2.1); rintro e w13 ⟨v283, v286, rfl, ho0, ho1, hb⟩; refine ⟨_, rfl, ?_⟩; have n0_ := Aside0.mk (Kd.R_below (qR HO280.out) hb); have n1_ := Aside0.mk (Kd.R_lower ho0 (below_size (qB))); have n2_ := Aside0.mk (Kd.R_lower ho1 (below_size (qB))); have n3_ := Aside0.mk (below_step (qB) hb); clear HO280; clear HB; have HO280 := n0_; have HO284 := n1_; have HO287 := n2_; have HB := n3_; clear n0_ n1_ n2_ n3_; (try clear hb); (try clear hb2); (try clear hk); (try clear hi); (try clear ho0); (try clear ho1)) | ((with_reducible refine gate_dst (N := 8) rfl ?_); refine box_event ?hg (N := 8) ?hd (cs := #[.int .i64 0, .slice none 0 0, .slice none 0 0]) (t := 27) ?hr ?_; (case hd => rfl); (case hg => rfl); (case hr => first | (go_simp; done) | (go_simp; rfl)); intro gb289 hg w14 hbox hb; have n0_ := Aside0.mk (Kd.R_below (qR HO280.out) hb); have n1_ := Aside0.mk (Kd.R_below (qR HO284.out) hb); have n2_ := Aside0.mk (Kd.R_below (qR HO287.out) hb); have n3_ := Aside0.mk (below_step (qB) hb); have n4_ := Aside0.mk (hbox); have n5_ := Aside0.mk ((by rw [hg]; exact (below_size (qB)) : w.heap.size ≤ gb289)); have n6_ := Aside0.mk ((by rw [hg]; exact (below_size (qB)) : w.heap.size ≤ gb289)); clear HO280; clear HO284; clear HO287; clear HB; have HO280 := n0_; have HO284 := n1_; have HO287 := n2_; have HB := n3_; have BK289 := n4_; have GW289 := n5_; have GE289 := n6_; clear n0_ n1_ n2_ n3_ n4_ n5_ n6_; clear hb hbox hg; have hcz15_0 : w14.cell? ⟨gb289, 0, none⟩ = some (.int .i64 0) := (blk_cell BK289.out 0).trans rfl; have hcz15_1 : w14.cell? ⟨gb289, 1, none⟩ = some (.slice none 0 0) := (blk_cell BK289.out 1).trans rfl; have hcz15_2 : w14.cell? ⟨gb289, 2, none⟩ = some (.slice none 0 0) := (blk_cell BK289.out 2).trans rfl; have hfz15_0 := blk_frozen BK289.out 0; have hfz15_1 := blk_frozen BK289.out 1; have hfz15_2 := blk_frozen BK289.out 2; obtain ⟨Ao16, co16, eo16⟩ := Kd.R_slice HO284.out; subst eo16; obtain ⟨Ao17, co17, eo17⟩ := Kd.R_slice HO287.out; subst eo17) | ((with_reducible refine gate_callee (f := 10) rfl ?_); refine goesL_ (some 32) rfl rfl Try.func10 (by kernel_rfl) rfl #[.slice A2 l2.length c2] rfl qG ?_; (with_reducible refine (laws_toNodeS.calls k _ _ l2 t290 _ ?side1 ?side2 A8.out).mono ?_); (case side1 => exact Kd.C_below HR2.out (qB)); (case side2 => exact HC2.out); rintro e w18 ⟨v291, rfl, ho0, hb⟩; refine ⟨_, rfl, ?_⟩; have n0_ := Aside0.mk (Kd.R_elder' (by (with_reducible repeat (first | apply Kd.R_alloc | apply Kd.R_drewN | apply Kd.R_drew)); exact (Kd.R_mono (Kd.R_far (p := ⟨gb289, 2, none⟩) (Kd.R_far (p := ⟨gb289, 1, none⟩) (Kd.R_far (p := ⟨gb289, 0, none⟩) (Kd.R_types HO280.out BK289.out (by decide)) (fun _ hk => hk.2) (.int .i64 t281)) (fun _ hk => hk.2) (.slice Ao16 t282.length co16)) (fun _ hk => hk.2) (.slice Ao17 t285.length co17)) (fun _ h_ => h_.1))) (Kd.R_base ho0) hb); have n1_ := Aside0.mk (Kd.R_below (by (with_reducible repeat (first | apply Kd.R_alloc | apply Kd.R_drewN | apply Kd.R_drew)); exact (Kd.R_mono (Kd.R_far (p := ⟨gb289, 2, none⟩) (Kd.R_far (p := ⟨gb289, 1, none⟩) (Kd.R_far (p := ⟨gb289, 0, none⟩) (Kd.R_types HO284.out BK289.out (by decide)) (fun _ hk => hk.2) (.int .i64 t281)) (fun _ hk => hk.2) (.slice Ao16 t282.length co16)) (fun _ hk => hk.2) (.slice Ao17 t285.length co17)) (fun _ h_ => h_.1))) hb); have n2_ := Aside0.mk (Kd.R_below (by (with_reducible repeat (first | apply Kd.R_alloc | apply Kd.R_drewN | apply Kd.R_drew)); exact (Kd.R_mono (Kd.R_far (p := ⟨gb289, 2, none⟩) (Kd.R_far (p := ⟨gb289, 1, none⟩) (Kd.R_far (p := ⟨gb289, 0, none⟩) (Kd.R_types HO287.out BK289.out (by decide)) (fun _ hk => hk.2) (.int .i64 t281)) (fun _ hk => hk.2) (.slice Ao16 t282.length co16)) (fun _ hk => hk.2) (.slice Ao17 t285.length co17)) (fun _ h_ => h_.1))) hb); have n3_ := Aside0.mk (Kd.R_lower (Kd.R_new' ho0 (Kd.R_lt (by (with_reducible repeat (first | apply Kd.R_alloc | apply Kd.R_drewN | apply Kd.R_drew)); exact (Kd.R_mono (Kd.R_far (p := ⟨gb289, 2, none⟩) (Kd.R_far (p := ⟨gb289, 1, none⟩) (Kd.R_far (p := ⟨gb289, 0, none⟩) (Kd.R_types HO280.out BK289.out (by decide)) (fun _ hk => hk.2) (.int .i64 t281)) (fun _ hk => hk.2) (.slice Ao16 t282.length co16)) (fun _ hk => hk.2) (.slice Ao17 t285.length co17)) (fun _ h_ => h_.1))))) (below_size (qB))); have n4_ := Aside0.mk (blk_below (g := gb289) (o := .cells #[.int .i64 t281, .slice Ao16 t282.length co16, .slice Ao17 t285.length co17] 27 (0, 0)) (by (with_reducible repeat (first | refine blk_drewN ?_ _ | refine blk_drew ?_ | refine blk_alloc ?_ _)); refine blk_put (cs := #[.int .i64 t281, .slice Ao16 t282.length co16, .slice none 0 0]) ?_ 2 _ rfl; (with_reducible repeat (first | refine blk_drewN ?_ _ | refine blk_drew ?_ | refine blk_alloc ?_ _)); refine blk_put (cs := #[.int .i64 t281, .slice none 0 0, .slice none 0 0]) ?_ 1 _ rfl; (with_reducible repeat (first | refine blk_drewN ?_ _ | refine blk_drew ?_ | refine blk_alloc ?_ _)); refine blk_put (cs := #[.int .i64 0, .slice none 0 0, .slice none 0 0]) ?_ 0 _ rfl; (with_reducible repeat (first | refine blk_drewN ?_ _ | refine blk_drew ?_ | refine blk_alloc ?_ _)); exact BK289.out) hb); have n5_ := Aside0.mk (below_step (qB) hb); clear HO280; clear HO284; clear HO287; clear BK289; clear HB; have HO280 := n0_; have HO284 := n1_; have HO287 := n2_; have HO292 := n3_; have BK289 := n4_; have HB := n5_; clear n0_ n1_ n2_ n3_ n4_ n5_; (try clear hb); (try clear hb2); (try clear hk); (try clear hi); (try clear ho0); obtain ⟨Ao19, co19, eo19⟩ := Kd.R_slice HO292.out; subst eo19) | ((with_reducible refine gate_callee (f := 11) rfl ?_); refine goesL_ (some 37) rfl rfl Try.func11 (by kernel_rfl) rfl #[.int .i64 a0, .int .i64 a1, .slice Ao19 t290.length co19] rfl qG ?_; (with_reducible refine (impl_GatesFor.calls k a0 a1 _ _ t290 t293 t294 t297 t300 _ ?side1 ?side2 A9.out).mono ?_); (case side1 => repeat (first | exact (Kd.R_reads' HO292.out).2.2 | (with_reducible refine Kd.C_alloc ?_ _) | (with_reducible refine Kd.C_drewN ?_ _) | (with_reducible refine Kd.C_drew ?_))); (case side2 => exact (Kd.R_reads' HO292.out).2.1); rintro e w20 ⟨v295, v298, rfl, ho0, ho1, hb⟩; refine ⟨_, rfl, ?_⟩; have n0_ := Aside0.mk (Kd.R_below (qR HO280.out) hb); have n1_ := Aside0.mk (Kd.R_elder' (qR HO284.out) (Kd.R_base ho0) hb); have n2_ := Aside0.mk (Kd.R_elder' (qR HO287.out) (Kd.R_base ho1) hb); have n3_ := Aside0.mk (Kd.R_below (qR HO292.out) hb); have n4_ := Aside0.mk (Kd.R_lower (Kd.R_new' ho0 (Kd.R_lt (qR HO284.out))) (below_size (qB))); have n5_ := Aside0.mk (Kd.R_lower (Kd.R_new' ho1 (Kd.R_lt (qR HO287.out))) (below_size (qB))); have n6_ := Aside0.mk (blk_below (g := gb289) (o := .cells #[.int .i64 t281, .slice Ao16 t282.length co16, .slice Ao17 t285.length co17] 27 (0, 0)) (qK BK289.out) hb); have n7_ := Aside0.mk (below_step (qB) hb); clear HO280; clear HO284; clear HO287; clear HO292; clear BK289; clear HB; have HO280 := n0_; have HO284 := n1_; have HO287 := n2_; have HO292 := n3_; have HO296 := n4_; have HO299 := n5_; have BK289 := n6_; have HB := n7_; clear n0_ n1_ n2_ n3_ n4_ n5_ n6_ n7_; (try clear hb); (try clear hb2); (try clear hk); (try clear hi); (try clear ho0); (try clear ho1)) | ((with_reducible refine gate_dst (N := 11) rfl ?_); refine box_event ?hg (N := 11) ?hd (cs := #[.int .i64 0, .slice none 0 0, .slice none 0 0]) (t := 27) ?hr ?_; (case hd => rfl); (case hg => rfl); (case hr => first | (go_simp; done) | (go_simp; rfl)); intro gb301 hg w21 hbox hb; have n0_ := Aside0.mk (Kd.R_below (qR HO280.out) hb); have n1_ := Aside0.mk (Kd.R_below (qR HO284.out) hb); have n2_ := Aside0.mk (Kd.R_below (qR HO287.out) hb); have n3_ := Aside0.mk (Kd.R_below (qR HO292.out) hb); have n4_ := Aside0.mk (Kd.R_below (qR HO296.out) hb); have n5_ := Aside0.mk (Kd.R_below (qR HO299.out) hb); have n6_ := Aside0.mk (blk_below (g := gb289) (o := .cells #[.int .i64 t281, .slice Ao16 t282.length co16, .slice Ao17 t285.length co17] 27 (0, 0)) (qK BK289.out) hb); have n7_ := Aside0.mk (below_step (qB) hb); have n8_ := Aside0.mk (hbox); have n9_ := Aside0.mk ((by rw [hg]; exact (below_size (qB)) : w.heap.size ≤ gb301)); have n10_ := Aside0.mk ((by rw [hg]; exact (below_size (qB)) : w.heap.size ≤ gb301)); have n11_ := Aside0.mk ((by rw [hg]; exact Nat.ne_of_lt (blk_lt (g := gb289) (o := .cells #[.int .i64 t281, .slice Ao16 t282.length co16, .slice Ao17 t285.length co17] 27 (0, 0)) (qK BK289.out)) : gb289 ≠ gb301)); have n12_ := Aside0.mk ((by rw [hg]; exact Nat.ne_of_gt (blk_lt (g := gb289) (o := .cells #[.int .i64 t281, .slice Ao16 t282.length co16, .slice Ao17 t285.length co17] 27 (0, 0)) (qK BK289.out)) : gb301 ≠ gb289)); clear HO280; clear HO284; clear HO287; clear HO292; clear HO296; clear HO299; clear BK289; clear HB; have HO280 := n0_; have HO284 := n1_; have HO287 := n2_; have HO292 := n3_; have HO296 := n4_; have HO299 := n5_; have BK289 := n6_; have HB := n7_; have BK301 := n8_; have GW301 := n9_; have GE301 := n10_; have NB289_301 := n11_; have NB301_289 := n12_; clear n0_ n1_ n2_ n3_ n4_ n5_ n6_ n7_ n8_ n9_ n10_ n11_ n12_; clear hb hbox hg; have hnb22 := NB301_289.out; have hnc22 := NB289_301.out; have hcz23_0 : w21.cell? ⟨gb301, 0, none⟩ = some (.int .i64 0) := (blk_cell BK301.out 0).trans rfl; have hcz23_1 : w21.cell? ⟨gb301, 1, none⟩ = some (.slice none 0 0) := (blk_cell BK301.out 1).trans rfl; have hcz23_2 : w21.cell? ⟨gb301, 2, none⟩ = some (.slice none 0 0) := (blk_cell BK301.out 2).trans rfl; have hfz23_0 := blk_frozen BK301.out 0; have hfz23_1 := blk_frozen BK301.out 1; have hfz23_2 := blk_frozen BK301.out 2; obtain ⟨Ao24, co24, eo24⟩ := Kd.R_slice HO296.out; subst eo24; obtain ⟨Ao25, co25, eo25⟩ := Kd.R_slice HO299.out; subst eo25))
  (try simp only [Act.put, List.setIfInBounds_toArray, List.set_cons_zero, List.set_cons_succ])
  go_cut [48] (fun v48 wc => ∃ (kq : Nat) (x48_9 : Bool), v48 = .bool x48_9 ∧ Aside0 (laws_FnExactGatesFor.j0 kq a0 a1 l2 t288 t290 t300 x48_9 t281 t282 t285 t293 t294 t297 = some r) ∧ Aside0 (kq ≤ k) ∧ Aside0 (Kd.R k63 63 wc w.heap.size (fun _ => True) (.slice Ao19 t290.length co19) t290) ∧ Aside0 (Kd.R k93 93 wc w.heap.size (fun k_ => some k_ ≠ ((.slice Ao24 t294.length co24) : Value).ownBlock) (.slice Ao16 t282.length co16) t282) ∧ Aside0 (Kd.R (Kd.int .i64) 3 wc w.heap.size (fun k_ => some k_ ≠ ((.slice Ao25 t297.length co25) : Value).ownBlock) (.slice Ao17 t285.length co17) t285) ∧ Aside0 (Kd.R k93 93 wc w.heap.size (fun k_ => some k_ ≠ ((.slice Ao16 t282.length co16) : Value).ownBlock) (.slice Ao24 t294.length co24) t294) ∧ Aside0 (Kd.R (Kd.int .i64) 3 wc w.heap.size (fun k_ => some k_ ≠ ((.slice Ao17 t285.length co17) : Value).ownBlock) (.slice Ao25 t297.length co25) t297) ∧ Aside0 (wc.heap[gb289]? = some (.cells #[.int .i64 t281, (.slice Ao16 t282.length co16), (.slice Ao17 t285.length co17)] 27 (0, 0))) ∧ Aside0 (wc.heap[gb301]? = some (.cells #[.int .i64 t293, (.slice Ao24 t294.length co24), (.slice Ao25 t297.length co25)] 27 (0, 0))) ∧ Aside0 (Below w.heap.size w wc))
  case first =>
   have H := HC10.out
   clear HC10
   replace H := Option.bind_eq_some_iff.mp H
   obtain ⟨t302, A260, H⟩ := H
   replace H : (if t302 = true then (laws_FnExactGatesFor.j0 k a0 a1 l2 t288 t290 t300 (t300 != t288) t281 t282 t285 t293 t294 t297) else (laws_FnExactGatesFor.j0 k a0 a1 l2 t288 t290 t300 true t281 t282 t285 t293 t294 t297)) = some r := H
   have A26 := Aside0.mk A260
   clear A260
   by_cases c27 : t302 = true
   ·subst c27
    have H1 : (laws_FnExactGatesFor.j0 k a0 a1 l2 t288 t290 t300 (t300 != t288) t281 t282 t285 t293 t294 t297) = some r := by rw [if_pos rfl] at H; exact H
    clear H
    have H := H1
    clear H1
    have H' := Aside0.mk H
    clear H
    have hnb28 := NB301_289.out
    have hnc28 := NB289_301.out
    have hcz29_0 : w21.cell? ⟨gb301, 0, none⟩ = some (.int .i64 0) := (blk_cell BK301.out 0).trans rfl
    have hcz29_1 : w21.cell? ⟨gb301, 1, none⟩ = some (.slice none 0 0) := (blk_cell BK301.out 1).trans rfl
    have hcz29_2 : w21.cell? ⟨gb301, 2, none⟩ = some (.slice none 0 0) := (blk_cell BK301.out 2).trans rfl
    have hfz29_0 := blk_frozen BK301.out 0
    have hfz29_1 := blk_frozen BK301.out 1
    have hfz29_2 := blk_frozen BK301.out 2
    have hcz30_0 : w21.cell? ⟨gb289, 0, none⟩ = some (.int .i64 t281) := (blk_cell BK289.out 0).trans rfl
    have hcz30_1 : w21.cell? ⟨gb289, 1, none⟩ = some (.slice Ao16 t282.length co16) := (blk_cell BK289.out 1).trans rfl
    have hcz30_2 : w21.cell? ⟨gb289, 2, none⟩ = some (.slice Ao17 t285.length co17) := (blk_cell BK289.out 2).trans rfl
    have hfz30_0 := blk_frozen BK289.out 0
    have hfz30_1 := blk_frozen BK289.out 1
    have hfz30_2 := blk_frozen BK289.out 2
    go_wp2_with (first | ((with_reducible refine gate_callee (f := 12) rfl ?_); refine goesL_ (some 42) rfl rfl Try.func12 (by kernel_rfl) rfl #[.agg #[.int .i64 t293, .slice Ao24 t294.length co24, .slice Ao25 t297.length co25], .agg #[.int .i64 t281, .slice Ao16 t282.length co16, .slice Ao17 t285.length co17]] rfl qG ?_; (with_reducible refine (laws_eqCircuit.calls k t293 _ _ t294 _ _ t297 t281 _ _ t282 _ _ t285 true _ ?side1 ?side2 ?side3 ?side4 ?side5 ?side6 ?side7 ?side8 A26.out).mono ?_); (case side1 => refine (Kd.R_reads' (e := 93) (base := w.heap.size) (ok := fun k_ => (True ∧ some k_ ≠ (.slice Ao16 t282.length co16 : Value).ownBlock)) (n := t294.length) (c := co24) ?_).2.2; exact (by (with_reducible repeat (first | apply Kd.R_alloc | apply Kd.R_drewN | apply Kd.R_drew)); exact (Kd.R_mono (Kd.R_far (p := ⟨gb301, 2, none⟩) (Kd.R_far (p := ⟨gb301, 1, none⟩) (Kd.R_far (p := ⟨gb301, 0, none⟩) (Kd.R_types HO296.out BK301.out (by decide)) (fun _ hk => hk.2) (.int .i64 t293)) (fun _ hk => hk.2) (.slice Ao24 t294.length co24)) (fun _ hk => hk.2) (.slice Ao25 t297.length co25)) (fun _ h_ => h_.1)))); (case side2 => exact (Kd.R_reads' HO296.out).2.1); (case side3 => refine (Kd.R_reads' (e := 3) (base := w.heap.size) (ok := fun k_ => (True ∧ some k_ ≠ (.slice Ao17 t285.length co17 : Value).ownBlock)) (n := t297.length) (c := co25) ?_).2.2; exact (by (with_reducible repeat (first | apply Kd.R_alloc | apply Kd.R_drewN | apply Kd.R_drew)); exact (Kd.R_mono (Kd.R_far (p := ⟨gb301, 2, none⟩) (Kd.R_far (p := ⟨gb301, 1, none⟩) (Kd.R_far (p := ⟨gb301, 0, none⟩) (Kd.R_types HO299.out BK301.out (by decide)) (fun _ hk => hk.2) (.int .i64 t293)) (fun _ hk => hk.2) (.slice Ao24 t294.length co24)) (fun _ hk => hk.2) (.slice Ao25 t297.length co25)) (fun _ h_ => h_.1)))); (case side4 => exact (Kd.R_reads' HO299.out).2.1); (case side5 => refine (Kd.R_reads' (e := 93) (base := w.heap.size) (ok := fun k_ => (True ∧ some k_ ≠ (.slice Ao24 t294.length co24 : Value).ownBlock)) (n := t282.length) (c := co16) ?_).2.2; exact (by (with_reducible repeat (first | apply Kd.R_alloc | apply Kd.R_drewN | apply Kd.R_drew)); exact (Kd.R_mono (Kd.R_far (p := ⟨gb301, 2, none⟩) (Kd.R_far (p := ⟨gb301, 1, none⟩) (Kd.R_far (p := ⟨gb301, 0, none⟩) (Kd.R_types HO284.out BK301.out (by decide)) (fun _ hk => hk.2) (.int .i64 t293)) (fun _ hk => hk.2) (.slice Ao24 t294.length co24)) (fun _ hk => hk.2) (.slice Ao25 t297.length co25)) (fun _ h_ => h_.1)))); (case side6 => exact (Kd.R_reads' HO284.out).2.1); (case side7 => refine (Kd.R_reads' (e := 3) (base := w.heap.size) (ok := fun k_ => (True ∧ some k_ ≠ (.slice Ao25 t297.length co25 : Value).ownBlock)) (n := t285.length) (c := co17) ?_).2.2; exact (by (with_reducible repeat (first | apply Kd.R_alloc | apply Kd.R_drewN | apply Kd.R_drew)); exact (Kd.R_mono (Kd.R_far (p := ⟨gb301, 2, none⟩) (Kd.R_far (p := ⟨gb301, 1, none⟩) (Kd.R_far (p := ⟨gb301, 0, none⟩) (Kd.R_types HO287.out BK301.out (by decide)) (fun _ hk => hk.2) (.int .i64 t293)) (fun _ hk => hk.2) (.slice Ao24 t294.length co24)) (fun _ hk => hk.2) (.slice Ao25 t297.length co25)) (fun _ h_ => h_.1)))); (case side8 => exact (Kd.R_reads' HO287.out).2.1); rintro e w31 ⟨rfl, hb⟩; refine ⟨_, rfl, ?_⟩; have n0_ := Aside0.mk (Kd.R_below (by (with_reducible repeat (first | apply Kd.R_alloc | apply Kd.R_drewN | apply Kd.R_drew)); exact (Kd.R_mono (Kd.R_far (p := ⟨gb301, 2, none⟩) (Kd.R_far (p := ⟨gb301, 1, none⟩) (Kd.R_far (p := ⟨gb301, 0, none⟩) (Kd.R_types HO280.out BK301.out (by decide)) (fun _ hk => hk.2) (.int .i64 t293)) (fun _ hk => hk.2) (.slice Ao24 t294.length co24)) (fun _ hk => hk.2) (.slice Ao25 t297.length co25)) (fun _ h_ => h_.1))) hb); have n1_ := Aside0.mk (Kd.R_below (by (with_reducible repeat (first | apply Kd.R_alloc | apply Kd.R_drewN | apply Kd.R_drew)); exact (Kd.R_mono (Kd.R_far (p := ⟨gb301, 2, none⟩) (Kd.R_far (p := ⟨gb301, 1, none⟩) (Kd.R_far (p := ⟨gb301, 0, none⟩) (Kd.R_types HO284.out BK301.out (by decide)) (fun _ hk => hk.2) (.int .i64 t293)) (fun _ hk => hk.2) (.slice Ao24 t294.length co24)) (fun _ hk => hk.2) (.slice Ao25 t297.length co25)) (fun _ h_ => h_.1))) hb); have n2_ := Aside0.mk (Kd.R_below (by (with_reducible repeat (first | apply Kd.R_alloc | apply Kd.R_drewN | apply Kd.R_drew)); exact (Kd.R_mono (Kd.R_far (p := ⟨gb301, 2, none⟩) (Kd.R_far (p := ⟨gb301, 1, none⟩) (Kd.R_far (p := ⟨gb301, 0, none⟩) (Kd.R_types HO287.out BK301.out (by decide)) (fun _ hk => hk.2) (.int .i64 t293)) (fun _ hk => hk.2) (.slice Ao24 t294.length co24)) (fun _ hk => hk.2) (.slice Ao25 t297.length co25)) (fun _ h_ => h_.1))) hb); have n3_ := Aside0.mk (Kd.R_below (by (with_reducible repeat (first | apply Kd.R_alloc | apply Kd.R_drewN | apply Kd.R_drew)); exact (Kd.R_mono (Kd.R_far (p := ⟨gb301, 2, none⟩) (Kd.R_far (p := ⟨gb301, 1, none⟩) (Kd.R_far (p := ⟨gb301, 0, none⟩) (Kd.R_types HO292.out BK301.out (by decide)) (fun _ hk => hk.2) (.int .i64 t293)) (fun _ hk => hk.2) (.slice Ao24 t294.length co24)) (fun _ hk => hk.2) (.slice Ao25 t297.length co25)) (fun _ h_ => h_.1))) hb); have n4_ := Aside0.mk (Kd.R_below (by (with_reducible repeat (first | apply Kd.R_alloc | apply Kd.R_drewN | apply Kd.R_drew)); exact (Kd.R_mono (Kd.R_far (p := ⟨gb301, 2, none⟩) (Kd.R_far (p := ⟨gb301, 1, none⟩) (Kd.R_far (p := ⟨gb301, 0, none⟩) (Kd.R_types HO296.out BK301.out (by decide)) (fun _ hk => hk.2) (.int .i64 t293)) (fun _ hk => hk.2) (.slice Ao24 t294.length co24)) (fun _ hk => hk.2) (.slice Ao25 t297.length co25)) (fun _ h_ => h_.1))) hb); have n5_ := Aside0.mk (Kd.R_below (by (with_reducible repeat (first | apply Kd.R_alloc | apply Kd.R_drewN | apply Kd.R_drew)); exact (Kd.R_mono (Kd.R_far (p := ⟨gb301, 2, none⟩) (Kd.R_far (p := ⟨gb301, 1, none⟩) (Kd.R_far (p := ⟨gb301, 0, none⟩) (Kd.R_types HO299.out BK301.out (by decide)) (fun _ hk => hk.2) (.int .i64 t293)) (fun _ hk => hk.2) (.slice Ao24 t294.length co24)) (fun _ hk => hk.2) (.slice Ao25 t297.length co25)) (fun _ h_ => h_.1))) hb); have n6_ := Aside0.mk (blk_below (g := gb289) (o := .cells #[.int .i64 t281, .slice Ao16 t282.length co16, .slice Ao17 t285.length co17] 27 (0, 0)) (qF BK289.out) hb); have n7_ := Aside0.mk (blk_below (g := gb301) (o := .cells #[.int .i64 t293, .slice Ao24 t294.length co24, .slice Ao25 t297.length co25] 27 (0, 0)) (by (with_reducible repeat (first | refine blk_drewN ?_ _ | refine blk_drew ?_ | refine blk_alloc ?_ _)); refine blk_put (cs := #[.int .i64 t293, .slice Ao24 t294.length co24, .slice none 0 0]) ?_ 2 _ rfl; (with_reducible repeat (first | refine blk_drewN ?_ _ | refine blk_drew ?_ | refine blk_alloc ?_ _)); refine blk_put (cs := #[.int .i64 t293, .slice none 0 0, .slice none 0 0]) ?_ 1 _ rfl; (with_reducible repeat (first | refine blk_drewN ?_ _ | refine blk_drew ?_ | refine blk_alloc ?_ _)); refine blk_put (cs := #[.int .i64 0, .slice none 0 0, .slice none 0 0]) ?_ 0 _ rfl; (with_reducible repeat (first | refine blk_drewN ?_ _ | refine blk_drew ?_ | refine blk_alloc ?_ _)); exact BK301.out) hb); have n8_ := Aside0.mk (below_step (qB) hb); clear HO280; clear HO284; clear HO287; clear HO292; clear HO296; clear HO299; clear BK289; clear BK301; clear HB; have HO280 := n0_; have HO284 := n1_; have HO287 := n2_; have HO292 := n3_; have HO296 := n4_; have HO299 := n5_; have BK289 := n6_; have BK301 := n7_; have HB := n8_; clear n0_ n1_ n2_ n3_ n4_ n5_ n6_ n7_ n8_; (try clear hb); (try clear hb2); (try clear hk); (try clear hi)))
    go_meet
    case rel => exact ⟨_, ((t300 != t288)), qS, H', ⟨by first | omega | exact Nat.le_refl _⟩, ⟨by (with_reducible repeat (first | apply Kd.R_alloc | apply Kd.R_drewN | apply Kd.R_drew)); exact Kd.R_mono HO292.out (fun _ hk => trivial)⟩, ⟨by (with_reducible repeat (first | apply Kd.R_alloc | apply Kd.R_drewN | apply Kd.R_drew)); exact Kd.R_mono HO284.out (fun _ hk => hk.2)⟩, ⟨by (with_reducible repeat (first | apply Kd.R_alloc | apply Kd.R_drewN | apply Kd.R_drew)); exact Kd.R_mono HO287.out (fun _ hk => hk.2)⟩, ⟨by (with_reducible repeat (first | apply Kd.R_alloc | apply Kd.R_drewN | apply Kd.R_drew)); exact Kd.R_mono HO296.out (fun _ hk => hk.2)⟩, ⟨by (with_reducible repeat (first | apply Kd.R_alloc | apply Kd.R_drewN | apply Kd.R_drew)); exact Kd.R_mono HO299.out (fun _ hk => hk.2)⟩, ⟨by (with_reducible repeat (first | refine blk_drewN ?_ _ | refine blk_drew ?_ | refine blk_alloc ?_ _)); exact BK289.out⟩, ⟨by (with_reducible repeat (first | refine blk_drewN ?_ _ | refine blk_drew ?_ | refine blk_alloc ?_ _)); exact BK301.out⟩, ⟨qB⟩⟩
   ·replace c27 := Bool.eq_false_iff.mpr c27
    subst c27
    have H1 : (laws_FnExactGatesFor.j0 k a0 a1 l2 t288 t290 t300 true t281 t282 t285 t293 t294 t297) = some r := by rw [if_neg (show ¬ (false = true) by decide)] at H; exact H
    clear H
    have H := H1
    clear H1
    have H' := Aside0.mk H
    clear H
    have hnb32 := NB301_289.out
    have hnc32 := NB289_301.out
    have hcz33_0 : w21.cell? ⟨gb301, 0, none⟩ = some (.int .i64 0) := (blk_cell BK301.out 0).trans rfl
    have hcz33_1 : w21.cell? ⟨gb301, 1, none⟩ = some (.slice none 0 0) := (blk_cell BK301.out 1).trans rfl
    have hcz33_2 : w21.cell? ⟨gb301, 2, none⟩ = some (.slice none 0 0) := (blk_cell BK301.out 2).trans rfl
    have hfz33_0 := blk_frozen BK301.out 0
    have hfz33_1 := blk_frozen BK301.out 1
    have hfz33_2 := blk_frozen BK301.out 2
    have hcz34_0 : w21.cell? ⟨gb289, 0, none⟩ = some (.int .i64 t281) := (blk_cell BK289.out 0).trans rfl
    have hcz34_1 : w21.cell? ⟨gb289, 1, none⟩ = some (.slice Ao16 t282.length co16) := (blk_cell BK289.out 1).trans rfl
    have hcz34_2 : w21.cell? ⟨gb289, 2, none⟩ = some (.slice Ao17 t285.length co17) := (blk_cell BK289.out 2).trans rfl
    have hfz34_0 := blk_frozen BK289.out 0
    have hfz34_1 := blk_frozen BK289.out 1
    have hfz34_2 := blk_frozen BK289.out 2
    go_wp2_with (first | ((with_reducible refine gate_callee (f := 12) rfl ?_); refine goesL_ (some 42) rfl rfl Try.func12 (by kernel_rfl) rfl #[.agg #[.int .i64 t293, .slice Ao24 t294.length co24, .slice Ao25 t297.length co25], .agg #[.int .i64 t281, .slice Ao16 t282.length co16, .slice Ao17 t285.length co17]] rfl qG ?_; (with_reducible refine (laws_eqCircuit.calls k t293 _ _ t294 _ _ t297 t281 _ _ t282 _ _ t285 false _ ?side1 ?side2 ?side3 ?side4 ?side5 ?side6 ?side7 ?side8 A26.out).mono ?_); (case side1 => refine (Kd.R_reads' (e := 93) (base := w.heap.size) (ok := fun k_ => (True ∧ some k_ ≠ (.slice Ao16 t282.length co16 : Value).ownBlock)) (n := t294.length) (c := co24) ?_).2.2; exact (by (with_reducible repeat (first | apply Kd.R_alloc | apply Kd.R_drewN | apply Kd.R_drew)); exact (Kd.R_mono (Kd.R_far (p := ⟨gb301, 2, none⟩) (Kd.R_far (p := ⟨gb301, 1, none⟩) (Kd.R_far (p := ⟨gb301, 0, none⟩) (Kd.R_types HO296.out BK301.out (by decide)) (fun _ hk => hk.2) (.int .i64 t293)) (fun _ hk => hk.2) (.slice Ao24 t294.length co24)) (fun _ hk => hk.2) (.slice Ao25 t297.length co25)) (fun _ h_ => h_.1)))); (case side2 => exact (Kd.R_reads' HO296.out).2.1); (case side3 => refine (Kd.R_reads' (e := 3) (base := w.heap.size) (ok := fun k_ => (True ∧ some k_ ≠ (.slice Ao17 t285.length co17 : Value).ownBlock)) (n := t297.length) (c := co25) ?_).2.2; exact (by (with_reducible repeat (first | apply Kd.R_alloc | apply Kd.R_drewN | apply Kd.R_drew)); exact (Kd.R_mono (Kd.R_far (p := ⟨gb301, 2, none⟩) (Kd.R_far (p := ⟨gb301, 1, none⟩) (Kd.R_far (p := ⟨gb301, 0, none⟩) (Kd.R_types HO299.out BK301.out (by decide)) (fun _ hk => hk.2) (.int .i64 t293)) (fun _ hk => hk.2) (.slice Ao24 t294.length co24)) (fun _ hk => hk.2) (.slice Ao25 t297.length co25)) (fun _ h_ => h_.1)))); (case side4 => exact (Kd.R_reads' HO299.out).2.1); (case side5 => refine (Kd.R_reads' (e := 93) (base := w.heap.size) (ok := fun k_ => (True ∧ some k_ ≠ (.slice Ao24 t294.length co24 : Value).ownBlock)) (n := t282.length) (c := co16) ?_).2.2; exact (by (with_reducible repeat (first | apply Kd.R_alloc | apply Kd.R_drewN | apply Kd.R_drew)); exact (Kd.R_mono (Kd.R_far (p := ⟨gb301, 2, none⟩) (Kd.R_far (p := ⟨gb301, 1, none⟩) (Kd.R_far (p := ⟨gb301, 0, none⟩) (Kd.R_types HO284.out BK301.out (by decide)) (fun _ hk => hk.2) (.int .i64 t293)) (fun _ hk => hk.2) (.slice Ao24 t294.length co24)) (fun _ hk => hk.2) (.slice Ao25 t297.length co25)) (fun _ h_ => h_.1)))); (case side6 => exact (Kd.R_reads' HO284.out).2.1); (case side7 => refine (Kd.R_reads' (e := 3) (base := w.heap.size) (ok := fun k_ => (True ∧ some k_ ≠ (.slice Ao25 t297.length co25 : Value).ownBlock)) (n := t285.length) (c := co17) ?_).2.2; exact (by (with_reducible repeat (first | apply Kd.R_alloc | apply Kd.R_drewN | apply Kd.R_drew)); exact (Kd.R_mono (Kd.R_far (p := ⟨gb301, 2, none⟩) (Kd.R_far (p := ⟨gb301, 1, none⟩) (Kd.R_far (p := ⟨gb301, 0, none⟩) (Kd.R_types HO287.out BK301.out (by decide)) (fun _ hk => hk.2) (.int .i64 t293)) (fun _ hk => hk.2) (.slice Ao24 t294.length co24)) (fun _ hk => hk.2) (.slice Ao25 t297.length co25)) (fun _ h_ => h_.1)))); (case side8 => exact (Kd.R_reads' HO287.out).2.1); rintro e w35 ⟨rfl, hb⟩; refine ⟨_, rfl, ?_⟩; have n0_ := Aside0.mk (Kd.R_below (by (with_reducible repeat (first | apply Kd.R_alloc | apply Kd.R_drewN | apply Kd.R_drew)); exact (Kd.R_mono (Kd.R_far (p := ⟨gb301, 2, none⟩) (Kd.R_far (p := ⟨gb301, 1, none⟩) (Kd.R_far (p := ⟨gb301, 0, none⟩) (Kd.R_types HO280.out BK301.out (by decide)) (fun _ hk => hk.2) (.int .i64 t293)) (fun _ hk => hk.2) (.slice Ao24 t294.length co24)) (fun _ hk => hk.2) (.slice Ao25 t297.length co25)) (fun _ h_ => h_.1))) hb); have n1_ := Aside0.mk (Kd.R_below (by (with_reducible repeat (first | apply Kd.R_alloc | apply Kd.R_drewN | apply Kd.R_drew)); exact (Kd.R_mono (Kd.R_far (p := ⟨gb301, 2, none⟩) (Kd.R_far (p := ⟨gb301, 1, none⟩) (Kd.R_far (p := ⟨gb301, 0, none⟩) (Kd.R_types HO284.out BK301.out (by decide)) (fun _ hk => hk.2) (.int .i64 t293)) (fun _ hk => hk.2) (.slice Ao24 t294.length co24)) (fun _ hk => hk.2) (.slice Ao25 t297.length co25)) (fun _ h_ => h_.1))) hb); have n2_ := Aside0.mk (Kd.R_below (by (with_reducible repeat (first | apply Kd.R_alloc | apply Kd.R_drewN | apply Kd.R_drew)); exact (Kd.R_mono (Kd.R_far (p := ⟨gb301, 2, none⟩) (Kd.R_far (p := ⟨gb301, 1, none⟩) (Kd.R_far (p := ⟨gb301, 0, none⟩) (Kd.R_types HO287.out BK301.out (by decide)) (fun _ hk => hk.2) (.int .i64 t293)) (fun _ hk => hk.2) (.slice Ao24 t294.length co24)) (fun _ hk => hk.2) (.slice Ao25 t297.length co25)) (fun _ h_ => h_.1))) hb); have n3_ := Aside0.mk (Kd.R_below (by (with_reducible repeat (first | apply Kd.R_alloc | apply Kd.R_drewN | apply Kd.R_drew)); exact (Kd.R_mono (Kd.R_far (p := ⟨gb301, 2, none⟩) (Kd.R_far (p := ⟨gb301, 1, none⟩) (Kd.R_far (p := ⟨gb301, 0, none⟩) (Kd.R_types HO292.out BK301.out (by decide)) (fun _ hk => hk.2) (.int .i64 t293)) (fun _ hk => hk.2) (.slice Ao24 t294.length co24)) (fun _ hk => hk.2) (.slice Ao25 t297.length co25)) (fun _ h_ => h_.1))) hb); have n4_ := Aside0.mk (Kd.R_below (by (with_reducible repeat (first | apply Kd.R_alloc | apply Kd.R_drewN | apply Kd.R_drew)); exact (Kd.R_mono (Kd.R_far (p := ⟨gb301, 2, none⟩) (Kd.R_far (p := ⟨gb301, 1, none⟩) (Kd.R_far (p := ⟨gb301, 0, none⟩) (Kd.R_types HO296.out BK301.out (by decide)) (fun _ hk => hk.2) (.int .i64 t293)) (fun _ hk => hk.2) (.slice Ao24 t294.length co24)) (fun _ hk => hk.2) (.slice Ao25 t297.length co25)) (fun _ h_ => h_.1))) hb); have n5_ := Aside0.mk (Kd.R_below (by (with_reducible repeat (first | apply Kd.R_alloc | apply Kd.R_drewN | apply Kd.R_drew)); exact (Kd.R_mono (Kd.R_far (p := ⟨gb301, 2, none⟩) (Kd.R_far (p := ⟨gb301, 1, none⟩) (Kd.R_far (p := ⟨gb301, 0, none⟩) (Kd.R_types HO299.out BK301.out (by decide)) (fun _ hk => hk.2) (.int .i64 t293)) (fun _ hk => hk.2) (.slice Ao24 t294.length co24)) (fun _ hk => hk.2) (.slice Ao25 t297.length co25)) (fun _ h_ => h_.1))) hb); have n6_ := Aside0.mk (blk_below (g := gb289) (o := .cells #[.int .i64 t281, .slice Ao16 t282.length co16, .slice Ao17 t285.length co17] 27 (0, 0)) (qF BK289.out) hb); have n7_ := Aside0.mk (blk_below (g := gb301) (o := .cells #[.int .i64 t293, .slice Ao24 t294.length co24, .slice Ao25 t297.length co25] 27 (0, 0)) (by (with_reducible repeat (first | refine blk_drewN ?_ _ | refine blk_drew ?_ | refine blk_alloc ?_ _)); refine blk_put (cs := #[.int .i64 t293, .slice Ao24 t294.length co24, .slice none 0 0]) ?_ 2 _ rfl; (with_reducible repeat (first | refine blk_drewN ?_ _ | refine blk_drew ?_ | refine blk_alloc ?_ _)); refine blk_put (cs := #[.int .i64 t293, .slice none 0 0, .slice none 0 0]) ?_ 1 _ rfl; (with_reducible repeat (first | refine blk_drewN ?_ _ | refine blk_drew ?_ | refine blk_alloc ?_ _)); refine blk_put (cs := #[.int .i64 0, .slice none 0 0, .slice none 0 0]) ?_ 0 _ rfl; (with_reducible repeat (first | refine blk_drewN ?_ _ | refine blk_drew ?_ | refine blk_alloc ?_ _)); exact BK301.out) hb); have n8_ := Aside0.mk (below_step (qB) hb); clear HO280; clear HO284; clear HO287; clear HO292; clear HO296; clear HO299; clear BK289; clear BK301; clear HB; have HO280 := n0_; have HO284 := n1_; have HO287 := n2_; have HO292 := n3_; have HO296 := n4_; have HO299 := n5_; have BK289 := n6_; have BK301 := n7_; have HB := n8_; clear n0_ n1_ n2_ n3_ n4_ n5_ n6_ n7_ n8_; (try clear hb); (try clear hb2); (try clear hk); (try clear hi)))
    go_meet
    case rel => exact ⟨_, (true), qS, H', ⟨by first | omega | exact Nat.le_refl _⟩, ⟨by (with_reducible repeat (first | apply Kd.R_alloc | apply Kd.R_drewN | apply Kd.R_drew)); exact Kd.R_mono HO292.out (fun _ hk => trivial)⟩, ⟨by (with_reducible repeat (first | apply Kd.R_alloc | apply Kd.R_drewN | apply Kd.R_drew)); exact Kd.R_mono HO284.out (fun _ hk => hk.2)⟩, ⟨by (with_reducible repeat (first | apply Kd.R_alloc | apply Kd.R_drewN | apply Kd.R_drew)); exact Kd.R_mono HO287.out (fun _ hk => hk.2)⟩, ⟨by (with_reducible repeat (first | apply Kd.R_alloc | apply Kd.R_drewN | apply Kd.R_drew)); exact Kd.R_mono HO296.out (fun _ hk => hk.2)⟩, ⟨by (with_reducible repeat (first | apply Kd.R_alloc | apply Kd.R_drewN | apply Kd.R_drew)); exact Kd.R_mono HO299.out (fun _ hk => hk.2)⟩, ⟨by (with_reducible repeat (first | refine blk_drewN ?_ _ | refine blk_drew ?_ | refine blk_alloc ?_ _)); exact BK289.out⟩, ⟨by (with_reducible repeat (first | refine blk_drewN ?_ _ | refine blk_drew ?_ | refine blk_alloc ?_ _)); exact BK301.out⟩, ⟨qB⟩⟩
  case rest =>
   clear HC10
   try clear c1
   try clear c2
   try clear p2
   try clear c3
   try clear c5
   try clear c5b0
   try clear c8
   try clear c9
   try clear c10
   try clear c11
   try clear c12
   try clear c22
   try clear c27
   try clear c28
   try clear c32
   try clear hcz15_0
   try clear hcz15_1
   try clear hcz15_2
   try clear hcz23_0
   try clear hcz23_1
   try clear hcz23_2
   try clear hcz29_0
   try clear hcz29_1
   try clear hcz29_2
   try clear hcz30_0
   try clear hcz30_1
   try clear hcz30_2
   try clear hcz33_0
   try clear hcz33_1
   try clear hcz33_2
   try clear hcz34_0
   try clear hcz34_1
   try clear hcz34_2
   try clear hfz15_0
   try clear hfz15_1
   try clear hfz15_2
   try clear hfz23_0
   try clear hfz23_1
   try clear hfz23_2
   try clear hfz29_0
   try clear hfz29_1
   try clear hfz29_2
   try clear hfz30_0
   try clear hfz30_1
   try clear hfz30_2
   try clear hfz33_0
   try clear hfz33_1
   try clear hfz33_2
   try clear hfz34_0
   try clear hfz34_1
   try clear hfz34_2
   obtain ⟨kq, x48_9, rfl, HA, HJ9, HO_10, HO_290001, HO_290002, HO_302001, HO_302002, BK289, BK301, HB⟩ := hcut
   cases kq with
   | zero => exact absurd HA.out (by simp [laws_FnExactGatesFor.j0])
   | succ kj9 =>
    have H := HA.out
    clear HA
    simp only [laws_FnExactGatesFor.j0] at H
    by_cases c36 : x48_9 = true
    ·subst c36
     have H1 : (some false) = some r := by rw [if_pos rfl] at H; exact H
     clear H
     have H := H1
     clear H1
     obtain rfl := Option.some.inj H
     go_wp2
     go_ret
     exact ⟨qE, qB⟩
    ·replace c36 := Bool.eq_false_iff.mpr c36
     subst c36
     have H1 : ((laws_toNodeS.f kj9 l2).bind fun t303 => ((laws_eqNodeS.f kj9 t290 t303).bind fun t306 => (if t306 = true then ((laws_markNodeS.f kj9 t290 1).bind fun bt307 => (if bt307.1 < 0 then (laws_FnExactGatesFor.j1 kj9 a0 a1 l2 t288 true t281 t282 t285 t293 t294 t297) else ((laws_eqCircuit.f kj9 t293 t294 t297 t281 t282 t285).bind fun t309 => (if t309 = true then (laws_FnExactGatesFor.j1 kj9 a0 a1 l2 t288 (t300 != t288) t281 t282 t285 t293 t294 t297) else (laws_FnExactGatesFor.j1 kj9 a0 a1 l2 t288 true t281 t282 t285 t293 t294 t297))))) else (some false)))) = some r := by rw [if_neg (show ¬ (false = true) by decide)] at H; exact H
     clear H
     have H := H1
     clear H1
     replace H := Option.bind_eq_some_iff.mp H
     obtain ⟨t303, A370, H⟩ := H
     replace H : ((laws_eqNodeS.f kj9 t290 t303).bind fun t306 => (if t306 = true then ((laws_markNodeS.f kj9 t290 1).bind fun bt307 => (if bt307.1 < 0 then (laws_FnExactGatesFor.j1 kj9 a0 a1 l2 t288 true t281 t282 t285 t293 t294 t297) else ((laws_eqCircuit.f kj9 t293 t294 t297 t281 t282 t285).bind fun t309 => (if t309 = true then (laws_FnExactGatesFor.j1 kj9 a0 a1 l2 t288 (t300 != t288) t281 t282 t285 t293 t294 t297) else (laws_FnExactGatesFor.j1 kj9 a0 a1 l2 t288 true t281 t282 t285 t293 t294 t297))))) else (some false))) = some r := H
     have A37 := Aside0.mk A370
     clear A370
     replace H := Option.bind_eq_some_iff.mp H
     obtain ⟨t306, A380, H⟩ := H
     replace H : (if t306 = true then ((laws_markNodeS.f kj9 t290 1).bind fun bt307 => (if bt307.1 < 0 then (laws_FnExactGatesFor.j1 kj9 a0 a1 l2 t288 true t281 t282 t285 t293 t294 t297) else ((laws_eqCircuit.f kj9 t293 t294 t297 t281 t282 t285).bind fun t309 => (if t309 = true then (laws_FnExactGatesFor.j1 kj9 a0 a1 l2 t288 (t300 != t288) t281 t282 t285 t293 t294 t297) else (laws_FnExactGatesFor.j1 kj9 a0 a1 l2 t288 true t281 t282 t285 t293 t294 t297))))) else (some false)) = some r := H
     have A38 := Aside0.mk A380
     clear A380
     by_cases c39 : t306 = true
     ·subst c39
      have H1 : ((laws_markNodeS.f kj9 t290 1).bind fun bt307 => (if bt307.1 < 0 then (laws_FnExactGatesFor.j1 kj9 a0 a1 l2 t288 true t281 t282 t285 t293 t294 t297) else ((laws_eqCircuit.f kj9 t293 t294 t297 t281 t282 t285).bind fun t309 => (if t309 = true then (laws_FnExactGatesFor.j1 kj9 a0 a1 l2 t288 (t300 != t288) t281 t282 t285 t293 t294 t297) else (laws_FnExactGatesFor.j1 kj9 a0 a1 l2 t288 true t281 t282 t285 t293 t294 t297))))) = some r := by rw [if_pos rfl] at H; exact H
      clear H
      have H := H1
      clear H1
      replace H := Option.bind_eq_some_iff.mp H
      obtain ⟨⟨t307, t308⟩, A400, H⟩ := H
      replace H : (if t307 < 0 then (laws_FnExactGatesFor.j1 kj9 a0 a1 l2 t288 true t281 t282 t285 t293 t294 t297) else ((laws_eqCircuit.f kj9 t293 t294 t297 t281 t282 t285).bind fun t309 => (if t309 = true then (laws_FnExactGatesFor.j1 kj9 a0 a1 l2 t288 (t300 != t288) t281 t282 t285 t293 t294 t297) else (laws_FnExactGatesFor.j1 kj9 a0 a1 l2 t288 true t281 t282 t285 t293 t294 t297)))) = some r := H
      have A40 := Aside0.mk A400
      clear A400
      have HC41 := Aside0.mk H
      clear H
      go_upto_region 14 with (first | ((with_reducible refine gate_callee (f := 10) rfl ?_); refine goesL_ (some 51) rfl rfl Try.func10 (by kernel_rfl) rfl #[.slice A2 l2.length c2] rfl qG ?_; (with_reducible refine (laws_toNodeS.calls kj9 _ _ l2 t303 _ ?side1 ?side2 A37.out).mono ?_); (case side1 => exact qC (Kd.C_below HR2.out HB.out)); (case side2 => exact HC2.out); rintro e w42 ⟨v304, rfl, ho0, hb⟩; refine ⟨_, rfl, ?_⟩; have n0_ := Aside0.mk (Kd.R_elder' (qR HO_10.out) (Kd.R_base ho0) hb); have n1_ := Aside0.mk (Kd.R_below (qR HO_290001.out) hb); have n2_ := Aside0.mk (Kd.R_below (qR HO_290002.out) hb); have n3_ := Aside0.mk (Kd.R_below (qR HO_302001.out) hb); have n4_ := Aside0.mk (Kd.R_below (qR HO_302002.out) hb); have n5_ := Aside0.mk (Kd.R_lower (Kd.R_new' ho0 (Kd.R_lt (qR HO_10.out))) (below_size (qB))); have n6_ := Aside0.mk (blk_below (g := gb289) (o := .cells #[.int .i64 t281, .slice Ao16 t282.length co16, .slice Ao17 t285.length co17] 27 (0, 0)) (qK BK289.out) hb); have n7_ := Aside0.mk (blk_below (g := gb301) (o := .cells #[.int .i64 t293, .slice Ao24 t294.length co24, .slice Ao25 t297.length co25] 27 (0, 0)) (qK BK301.out) hb); have n8_ := Aside0.mk (below_step (qB) hb); clear HO_10; clear HO_290001; clear HO_290002; clear HO_302001; clear HO_302002; clear BK289; clear BK301; clear HB; have HO_10 := n0_; have HO_290001 := n1_; have HO_290002 := n2_; have HO_302001 := n3_; have HO_302002 := n4_; have HO305 := n5_; have BK289 := n6_; have BK301 := n7_; have HB := n8_; clear n0_ n1_ n2_ n3_ n4_ n5_ n6_ n7_ n8_; (try clear hb); (try clear hb2); (try clear hk); (try clear hi); (try clear ho0); obtain ⟨Ao43, co43, eo43⟩ := Kd.R_slice HO305.out; subst eo43) | ((with_reducible refine gate_callee (f := 13) rfl ?_); refine goesL_ (some 52) rfl rfl Try.func13 (by kernel_rfl) rfl #[.slice Ao19 t290.length co19, .slice Ao43 t303.length co43] rfl qG ?_; (with_reducible refine (laws_eqNodeS.calls kj9 _ _ t290 _ _ t303 true _ ?side1 ?side2 ?side3 ?side4 A38.out).mono ?_); (case side1 => repeat (first | exact (Kd.R_reads' HO_10.out).2.2 | (with_reducible refine Kd.C_alloc ?_ _) | (with_reducible refine Kd.C_drewN ?_ _) | (with_reducible refine Kd.C_drew ?_))); (case side2 => exact (Kd.R_reads' HO_10.out).2.1); (case side3 => repeat (first | exact (Kd.R_reads' HO305.out).2.2 | (with_reducible refine Kd.C_alloc ?_ _) | (with_reducible refine Kd.C_drewN ?_ _) | (with_reducible refine Kd.C_drew ?_))); (case side4 => exact (Kd.R_reads' HO305.out).2.1); rintro e w44 ⟨rfl, hb⟩; refine ⟨_, rfl, ?_⟩; have n0_ := Aside0.mk (Kd.R_below (qR HO_10.out) hb); have n1_ := Aside0.mk (Kd.R_below (qR HO_290001.out) hb); have n2_ := Aside0.mk (Kd.R_below (qR HO_290002.out) hb); have n3_ := Aside0.mk (Kd.R_below (qR HO_302001.out) hb); have n4_ := Aside0.mk (Kd.R_below (qR HO_302002.out) hb); have n5_ := Aside0.mk (Kd.R_below (qR HO305.out) hb); have n6_ := Aside0.mk (blk_below (g := gb289) (o := .cells #[.int .i64 t281, .slice Ao16 t282.length co16, .slice Ao17 t285.length co17] 27 (0, 0)) (qK BK289.out) hb); have n7_ := Aside0.mk (blk_below (g := gb301) (o := .cells #[.int .i64 t293, .slice Ao24 t294.length co24, .slice Ao25 t297.length co25] 27 (0, 0)) (qK BK301.out) hb); have n8_ := Aside0.mk (below_step (qB) hb); clear HO_10; clear HO_290001; clear HO_290002; clear HO_302001; clear HO_302002; clear HO305; clear BK289; clear BK301; clear HB; have HO_10 := n0_; have HO_290001 := n1_; have HO_290002 := n2_; have HO_302001 := n3_; have HO_302002 := n4_; have HO305 := n5_; have BK289 := n6_; have BK301 := n7_; have HB := n8_; clear n0_ n1_ n2_ n3_ n4_ n5_ n6_ n7_ n8_; (try clear hb); (try clear hb2); (try clear hk); (try clear hi)) | ((with_reducible refine gate_callee (f := 14) rfl ?_); refine goesL_ (some 56) rfl rfl Try.func14 (by kernel_rfl) rfl #[.slice Ao19 t290.length co19, .int .i64 1] rfl qG ?_; (with_reducible refine (laws_markNodeS.calls kj9 (fun k_ => some k_ = (.slice Ao19 t290.length co19 : Value).ownBlock) (.slice Ao19 t290.length co19) t290 1 t307 t308 w _ ?side1 ?side2 A40.out).mono ?_); (case side1 => repeat (first | (with_reducible first | exact HB.out | apply below_alloc | apply pw_below_drewN | apply below_drew1 | refine below_set ?_ GE289.out | refine below_set ?_ GE301.out) | exact HB.out)); (case side2 => exact Kd.R_tight rfl HO_10.out); rintro e w45 ⟨rfl, hy0, hb, hkp⟩; refine ⟨_, rfl, ?_⟩; have n0_ := Aside0.mk (Kd.R_reok rfl hy0 (fun k_ e_ => HO_10.out.1 k_ e_)); have n1_ := Aside0.mk (Kd.R_mono (ok' := fun k_ => some k_ ≠ (.slice Ao24 t294.length co24 : Value).ownBlock) (Kd.R_keptB ((Kd.R_apart' HO_290001.out (Kd.R_typed HO_10.out) (by decide))) hkp (fun k_ hk_ hs_ => (hk_.2) hs_)) (fun k_ hk_ => hk_.1.1)); have n2_ := Aside0.mk (Kd.R_mono (ok' := fun k_ => some k_ ≠ (.slice Ao25 t297.length co25 : Value).ownBlock) (Kd.R_keptB ((Kd.R_apart' HO_290002.out (Kd.R_typed HO_10.out) (by decide))) hkp (fun k_ hk_ hs_ => (hk_.2) hs_)) (fun k_ hk_ => hk_.1.1)); have n3_ := Aside0.mk (Kd.R_mono (ok' := fun k_ => some k_ ≠ (.slice Ao16 t282.length co16 : Value).ownBlock) (Kd.R_keptB ((Kd.R_apart' HO_302001.out (Kd.R_typed HO_10.out) (by decide))) hkp (fun k_ hk_ hs_ => (hk_.2) hs_)) (fun k_ hk_ => hk_.1.1)); have n4_ := Aside0.mk (Kd.R_mono (ok' := fun k_ => some k_ ≠ (.slice Ao17 t285.length co17 : Value).ownBlock) (Kd.R_keptB ((Kd.R_apart' HO_302002.out (Kd.R_typed HO_10.out) (by decide))) hkp (fun k_ hk_ hs_ => (hk_.2) hs_)) (fun k_ hk_ => hk_.1.1)); have n5_ := Aside0.mk (blk_kept (qK BK289.out) hkp (fun hs_ => (fun e_ => (Kd.R_ne HO_10.out BK289.out (by decide)) e_) hs_)); have n6_ := Aside0.mk (blk_kept (qK BK301.out) hkp (fun hs_ => (fun e_ => (Kd.R_ne HO_10.out BK301.out (by decide)) e_) hs_)); have n7_ := Aside0.mk (Kd.R_mono (ok' := fun k_ => some k_ ≠ (.slice Ao19 t290.length co19 : Value).ownBlock) (Kd.R_keptB (HO305.out) hkp (fun k_ hk_ hs_ => (hk_.2) hs_)) (fun k_ hk_ => hk_.1.2)); have n8_ := Aside0.mk (hb); clear HO_10; clear HO_290001; clear HO_290002; clear HO_302001; clear HO_302002; clear BK289; clear BK301; clear HO305; clear HB; have HO_10 := n0_; have HO_290001 := n1_; have HO_290002 := n2_; have HO_302001 := n3_; have HO_302002 := n4_; have BK289 := n5_; have BK301 := n6_; have HO305 := n7_; have HB := n8_; clear n0_ n1_ n2_ n3_ n4_ n5_ n6_ n7_ n8_; (try clear hb); (try clear hkp); (try clear hy0)))
      (try simp only [Act.put, List.setIfInBounds_toArray, List.set_cons_zero, List.set_cons_succ])
      go_cut [69] (fun v69 wc => ∃ (kq : Nat) (x69_40 : Bool), v69 = .bool x69_40 ∧ Aside0 (laws_FnExactGatesFor.j1 kq a0 a1 l2 t288 x69_40 t281 t282 t285 t293 t294 t297 = some r) ∧ Aside0 (kq ≤ kj9) ∧ Aside0 (Kd.R k93 93 wc w.heap.size (fun k_ => some k_ ≠ ((.slice Ao24 t294.length co24) : Value).ownBlock) (.slice Ao16 t282.length co16) t282) ∧ Aside0 (Kd.R (Kd.int .i64) 3 wc w.heap.size (fun k_ => some k_ ≠ ((.slice Ao25 t297.length co25) : Value).ownBlock) (.slice Ao17 t285.length co17) t285) ∧ Aside0 (Kd.R k93 93 wc w.heap.size (fun k_ => some k_ ≠ ((.slice Ao16 t282.length co16) : Value).ownBlock) (.slice Ao24 t294.length co24) t294) ∧ Aside0 (Kd.R (Kd.int .i64) 3 wc w.heap.size (fun k_ => some k_ ≠ ((.slice Ao17 t285.length co17) : Value).ownBlock) (.slice Ao25 t297.length co25) t297) ∧ Aside0 (wc.heap[gb289]? = some (.cells #[.int .i64 t281, (.slice Ao16 t282.length co16), (.slice Ao17 t285.length co17)] 27 (0, 0))) ∧ Aside0 (wc.heap[gb301]? = some (.cells #[.int .i64 t293, (.slice Ao24 t294.length co24), (.slice Ao25 t297.length co25)] 27 (0, 0))) ∧ Aside0 (Below w.heap.size w wc))
      case first =>
       have H := HC41.out
       clear HC41
       by_cases c46 : t307 < 0
       ·rw [if_pos c46] at H
        have c46b0 : decide (t307 < 0) = true := decide_eq_true c46
        clear c46
        (first | rw [c46b0] | (simp only [i64_w, i32_w]; rw [c46b0]) | skip)
        have H' := Aside0.mk H
        clear H
        go_wp2
        go_meet
        case rel => exact ⟨_, (true), qS, H', ⟨by have := HJ9.out; first | omega | exact Nat.le_refl _⟩, ⟨qR HO_290001.out⟩, ⟨qR HO_290002.out⟩, ⟨qR HO_302001.out⟩, ⟨qR HO_302002.out⟩, ⟨by (with_reducible repeat (first | refine blk_drewN ?_ _ | refine blk_drew ?_ | refine blk_alloc ?_ _)); exact BK289.out⟩, ⟨by (with_reducible repeat (first | refine blk_drewN ?_ _ | refine blk_drew ?_ | refine blk_alloc ?_ _)); exact BK301.out⟩, ⟨qB⟩⟩
       ·rw [if_neg c46] at H
        have c46b0 : decide (t307 < 0) = false := decide_eq_false c46
        clear c46
        (first | rw [c46b0] | (simp only [i64_w, i32_w]; rw [c46b0]) | skip)
        replace H := Option.bind_eq_some_iff.mp H
        obtain ⟨t309, A470, H⟩ := H
        replace H : (if t309 = true then (laws_FnExactGatesFor.j1 kj9 a0 a1 l2 t288 (t300 != t288) t281 t282 t285 t293 t294 t297) else (laws_FnExactGatesFor.j1 kj9 a0 a1 l2 t288 true t281 t282 t285 t293 t294 t297)) = some r := H
        have A47 := Aside0.mk A470
        clear A470
        by_cases c48 : t309 = true
        ·subst c48
         have H1 : (laws_FnExactGatesFor.j1 kj9 a0 a1 l2 t288 (t300 != t288) t281 t282 t285 t293 t294 t297) = some r := by rw [if_pos rfl] at H; exact H
         clear H
         have H := H1
         clear H1
         have H' := Aside0.mk H
         clear H
         have hnb49 := NB301_289.out
         have hnc49 := NB289_301.out
         have hcz50_0 : w45.cell? ⟨gb301, 0, none⟩ = some (.int .i64 t293) := (blk_cell BK301.out 0).trans rfl
         have hcz50_1 : w45.cell? ⟨gb301, 1, none⟩ = some (.slice Ao24 t294.length co24) := (blk_cell BK301.out 1).trans rfl
         have hcz50_2 : w45.cell? ⟨gb301, 2, none⟩ = some (.slice Ao25 t297.length co25) := (blk_cell BK301.out 2).trans rfl
         have hfz50_0 := blk_frozen BK301.out 0
         have hfz50_1 := blk_frozen BK301.out 1
         have hfz50_2 := blk_frozen BK301.out 2
         have hcz51_0 : w45.cell? ⟨gb289, 0, none⟩ = some (.int .i64 t281) := (blk_cell BK289.out 0).trans rfl
         have hcz51_1 : w45.cell? ⟨gb289, 1, none⟩ = some (.slice Ao16 t282.length co16) := (blk_cell BK289.out 1).trans rfl
         have hcz51_2 : w45.cell? ⟨gb289, 2, none⟩ = some (.slice Ao17 t285.length co17) := (blk_cell BK289.out 2).trans rfl
         have hfz51_0 := blk_frozen BK289.out 0
         have hfz51_1 := blk_frozen BK289.out 1
         have hfz51_2 := blk_frozen BK289.out 2
         go_wp2_with (first | (go_at_call 12; (with_reducible refine (laws_eqCircuit.calls kj9 t293 _ _ t294 _ _ t297 t281 _ _ t282 _ _ t285 true _ ?side1 ?side2 ?side3 ?side4 ?side5 ?side6 ?side7 ?side8 A47.out).mono ?_); (case side1 => repeat (first | exact (Kd.R_reads' HO_302001.out).2.2 | (with_reducible refine Kd.C_alloc ?_ _) | (with_reducible refine Kd.C_drewN ?_ _) | (with_reducible refine Kd.C_drew ?_))); (case side2 => exact (Kd.R_reads' HO_302001.out).2.1); (case side3 => repeat (first | exact (Kd.R_reads' HO_302002.out).2.2 | (with_reducible refine Kd.C_alloc ?_ _) | (with_reducible refine Kd.C_drewN ?_ _) | (with_reducible refine Kd.C_drew ?_))); (case side4 => exact (Kd.R_reads' HO_302002.out).2.1); (case side5 => repeat (first | exact (Kd.R_reads' HO_290001.out).2.2 | (with_reducible refine Kd.C_alloc ?_ _) | (with_reducible refine Kd.C_drewN ?_ _) | (with_reducible refine Kd.C_drew ?_))); (case side6 => exact (Kd.R_reads' HO_290001.out).2.1); (case side7 => repeat (first | exact (Kd.R_reads' HO_290002.out).2.2 | (with_reducible refine Kd.C_alloc ?_ _) | (with_reducible refine Kd.C_drewN ?_ _) | (with_reducible refine Kd.C_drew ?_))); (case side8 => exact (Kd.R_reads' HO_290002.out).2.1); rintro e w52 ⟨rfl, hb⟩; have n0_ := Aside0.mk (Kd.R_below (qR HO_10.out) hb); have n1_ := Aside0.mk (Kd.R_below (qR HO_290001.out) hb); have n2_ := Aside0.mk (Kd.R_below (qR HO_290002.out) hb); have n3_ := Aside0.mk (Kd.R_below (qR HO_302001.out) hb); have n4_ := Aside0.mk (Kd.R_below (qR HO_302002.out) hb); have n5_ := Aside0.mk (Kd.R_below (qR HO305.out) hb); have n6_ := Aside0.mk (blk_below (g := gb289) (o := .cells #[.int .i64 t281, .slice Ao16 t282.length co16, .slice Ao17 t285.length co17] 27 (0, 0)) (qK BK289.out) hb); have n7_ := Aside0.mk (blk_below (g := gb301) (o := .cells #[.int .i64 t293, .slice Ao24 t294.length co24, .slice Ao25 t297.length co25] 27 (0, 0)) (qK BK301.out) hb); have n8_ := Aside0.mk (below_step (qB) hb); clear HO_10; clear HO_290001; clear HO_290002; clear HO_302001; clear HO_302002; clear HO305; clear BK289; clear BK301; clear HB; have HO_10 := n0_; have HO_290001 := n1_; have HO_290002 := n2_; have HO_302001 := n3_; have HO_302002 := n4_; have HO305 := n5_; have BK289 := n6_; have BK301 := n7_; have HB := n8_; clear n0_ n1_ n2_ n3_ n4_ n5_ n6_ n7_ n8_; (try clear hb); (try clear hb2); (try clear hk); (try clear hi)))
         go_meet
         case rel => exact ⟨_, ((t300 != t288)), qS, H', ⟨by have := HJ9.out; first | omega | exact Nat.le_refl _⟩, ⟨qR HO_290001.out⟩, ⟨qR HO_290002.out⟩, ⟨qR HO_302001.out⟩, ⟨qR HO_302002.out⟩, ⟨by (with_reducible repeat (first | refine blk_drewN ?_ _ | refine blk_drew ?_ | refine blk_alloc ?_ _)); exact BK289.out⟩, ⟨by (with_reducible repeat (first | refine blk_drewN ?_ _ | refine blk_drew ?_ | refine blk_alloc ?_ _)); exact BK301.out⟩, ⟨qB⟩⟩
        ·replace c48 := Bool.eq_false_iff.mpr c48
         subst c48
         have H1 : (laws_FnExactGatesFor.j1 kj9 a0 a1 l2 t288 true t281 t282 t285 t293 t294 t297) = some r := by rw [if_neg (show ¬ (false = true) by decide)] at H; exact H
         clear H
         have H := H1
         clear H1
         have H' := Aside0.mk H
         clear H
         have hnb53 := NB301_289.out
         have hnc53 := NB289_301.out
         have hcz54_0 : w45.cell? ⟨gb301, 0, none⟩ = some (.int .i64 t293) := (blk_cell BK301.out 0).trans rfl
         have hcz54_1 : w45.cell? ⟨gb301, 1, none⟩ = some (.slice Ao24 t294.length co24) := (blk_cell BK301.out 1).trans rfl
         have hcz54_2 : w45.cell? ⟨gb301, 2, none⟩ = some (.slice Ao25 t297.length co25) := (blk_cell BK301.out 2).trans rfl
         have hfz54_0 := blk_frozen BK301.out 0
         have hfz54_1 := blk_frozen BK301.out 1
         have hfz54_2 := blk_frozen BK301.out 2
         have hcz55_0 : w45.cell? ⟨gb289, 0, none⟩ = some (.int .i64 t281) := (blk_cell BK289.out 0).trans rfl
         have hcz55_1 : w45.cell? ⟨gb289, 1, none⟩ = some (.slice Ao16 t282.length co16) := (blk_cell BK289.out 1).trans rfl
         have hcz55_2 : w45.cell? ⟨gb289, 2, none⟩ = some (.slice Ao17 t285.length co17) := (blk_cell BK289.out 2).trans rfl
         have hfz55_0 := blk_frozen BK289.out 0
         have hfz55_1 := blk_frozen BK289.out 1
         have hfz55_2 := blk_frozen BK289.out 2
         go_wp2_with (first | (go_at_call 12; (with_reducible refine (laws_eqCircuit.calls kj9 t293 _ _ t294 _ _ t297 t281 _ _ t282 _ _ t285 false _ ?side1 ?side2 ?side3 ?side4 ?side5 ?side6 ?side7 ?side8 A47.out).mono ?_); (case side1 => repeat (first | exact (Kd.R_reads' HO_302001.out).2.2 | (with_reducible refine Kd.C_alloc ?_ _) | (with_reducible refine Kd.C_drewN ?_ _) | (with_reducible refine Kd.C_drew ?_))); (case side2 => exact (Kd.R_reads' HO_302001.out).2.1); (case side3 => repeat (first | exact (Kd.R_reads' HO_302002.out).2.2 | (with_reducible refine Kd.C_alloc ?_ _) | (with_reducible refine Kd.C_drewN ?_ _) | (with_reducible refine Kd.C_drew ?_))); (case side4 => exact (Kd.R_reads' HO_302002.out).2.1); (case side5 => repeat (first | exact (Kd.R_reads' HO_290001.out).2.2 | (with_reducible refine Kd.C_alloc ?_ _) | (with_reducible refine Kd.C_drewN ?_ _) | (with_reducible refine Kd.C_drew ?_))); (case side6 => exact (Kd.R_reads' HO_290001.out).2.1); (case side7 => repeat (first | exact (Kd.R_reads' HO_290002.out).2.2 | (with_reducible refine Kd.C_alloc ?_ _) | (with_reducible refine Kd.C_drewN ?_ _) | (with_reducible refine Kd.C_drew ?_))); (case side8 => exact (Kd.R_reads' HO_290002.out).2.1); rintro e w56 ⟨rfl, hb⟩; have n0_ := Aside0.mk (Kd.R_below (qR HO_10.out) hb); have n1_ := Aside0.mk (Kd.R_below (qR HO_290001.out) hb); have n2_ := Aside0.mk (Kd.R_below (qR HO_290002.out) hb); have n3_ := Aside0.mk (Kd.R_below (qR HO_302001.out) hb); have n4_ := Aside0.mk (Kd.R_below (qR HO_302002.out) hb); have n5_ := Aside0.mk (Kd.R_below (qR HO305.out) hb); have n6_ := Aside0.mk (blk_below (g := gb289) (o := .cells #[.int .i64 t281, .slice Ao16 t282.length co16, .slice Ao17 t285.length co17] 27 (0, 0)) (qK BK289.out) hb); have n7_ := Aside0.mk (blk_below (g := gb301) (o := .cells #[.int .i64 t293, .slice Ao24 t294.length co24, .slice Ao25 t297.length co25] 27 (0, 0)) (qK BK301.out) hb); have n8_ := Aside0.mk (below_step (qB) hb); clear HO_10; clear HO_290001; clear HO_290002; clear HO_302001; clear HO_302002; clear HO305; clear BK289; clear BK301; clear HB; have HO_10 := n0_; have HO_290001 := n1_; have HO_290002 := n2_; have HO_302001 := n3_; have HO_302002 := n4_; have HO305 := n5_; have BK289 := n6_; have BK301 := n7_; have HB := n8_; clear n0_ n1_ n2_ n3_ n4_ n5_ n6_ n7_ n8_; (try clear hb); (try clear hb2); (try clear hk); (try clear hi)))
         go_meet
         case rel => exact ⟨_, (true), qS, H', ⟨by have := HJ9.out; first | omega | exact Nat.le_refl _⟩, ⟨qR HO_290001.out⟩, ⟨qR HO_290002.out⟩, ⟨qR HO_302001.out⟩, ⟨qR HO_302002.out⟩, ⟨by (with_reducible repeat (first | refine blk_drewN ?_ _ | refine blk_drew ?_ | refine blk_alloc ?_ _)); exact BK289.out⟩, ⟨by (with_reducible repeat (first | refine blk_drewN ?_ _ | refine blk_drew ?_ | refine blk_alloc ?_ _)); exact BK301.out⟩, ⟨qB⟩⟩
      case rest =>
       clear HC41
       try clear c1
       try clear c2
       try clear p2
       try clear c3
       try clear c4
       try clear c5
       try clear c5b0
       try clear c8
       try clear c9
       try clear c10
       try clear c11
       try clear c12
       try clear c13
       try clear c14
       try clear c22
       try clear c27
       try clear c28
       try clear c32
       try clear c36
       try clear c39
       try clear c46
       try clear c46b0
       try clear c48
       try clear c49
       try clear c53
       try clear hcz15_0
       try clear hcz15_1
       try clear hcz15_2
       try clear hcz23_0
       try clear hcz23_1
       try clear hcz23_2
       try clear hcz29_0
       try clear hcz29_1
       try clear hcz29_2
       try clear hcz30_0
       try clear hcz30_1
       try clear hcz30_2
       try clear hcz33_0
       try clear hcz33_1
       try clear hcz33_2
       try clear hcz34_0
       try clear hcz34_1
       try clear hcz34_2
       try clear hcz50_0
       try clear hcz50_1
       try clear hcz50_2
       try clear hcz51_0
       try clear hcz51_1
       try clear hcz51_2
       try clear hcz54_0
       try clear hcz54_1
       try clear hcz54_2
       try clear hcz55_0
       try clear hcz55_1
       try clear hcz55_2
       try clear hfz15_0
       try clear hfz15_1
       try clear hfz15_2
       try clear hfz23_0
       try clear hfz23_1
       try clear hfz23_2
       try clear hfz29_0
       try clear hfz29_1
       try clear hfz29_2
       try clear hfz30_0
       try clear hfz30_1
       try clear hfz30_2
       try clear hfz33_0
       try clear hfz33_1
       try clear hfz33_2
       try clear hfz34_0
       try clear hfz34_1
       try clear hfz34_2
       try clear hfz50_0
       try clear hfz50_1
       try clear hfz50_2
       try clear hfz51_0
       try clear hfz51_1
       try clear hfz51_2
       try clear hfz54_0
       try clear hfz54_1
       try clear hfz54_2
       try clear hfz55_0
       try clear hfz55_1
       try clear hfz55_2
       try clear p2
       obtain ⟨kq, x69_40, rfl, HA, HJ40, HO_290001, HO_290002, HO_302001, HO_302002, BK289, BK301, HB⟩ := hcut
       cases kq with
       | zero => exact absurd HA.out (by simp [laws_FnExactGatesFor.j1])
       | succ kj40 =>
        have H := HA.out
        clear HA
        simp only [laws_FnExactGatesFor.j1] at H
        by_cases c57 : x69_40 = true
        ·subst c57
         have H1 : (some false) = some r := by rw [if_pos rfl] at H; exact H
         clear H
         have H := H1
         clear H1
         obtain rfl := Option.some.inj H
         go_wp2
         go_ret
         exact ⟨qE, qB⟩
        ·replace c57 := Bool.eq_false_iff.mpr c57
         subst c57
         have H1 : ((laws_markCircuit.f kj40 t293 t294 t297 1).bind fun bt310 => ((laws_heldCircuit.f kj40 t293 bt310.2.1 bt310.2.2 1).bind fun t313 => (if t313 < 0 then (some false) else (if t313 = bt310.1 then ((laws_toNodeS.f kj40 l2).bind fun t314 => ((impl_GatesFor.f kj40 a0 a1 t314).bind fun bt317 => ((laws_eqCircuit.f kj40 bt317.1 bt317.2.1 bt317.2.2.1 t281 t282 t285).bind fun t326 => (if t326 = true then (laws_FnExactGatesFor.j2 kj40 bt310.1 (bt317.2.2.2 != t288) t293 bt310.2.1 bt310.2.2) else (laws_FnExactGatesFor.j2 kj40 bt310.1 true t293 bt310.2.1 bt310.2.2))))) else (some false))))) = some r := by rw [if_neg (show ¬ (false = true) by decide)] at H; exact H
         clear H
         have H := H1
         clear H1
         replace H := Option.bind_eq_some_iff.mp H
         obtain ⟨⟨t310, t311, t312⟩, A580, H⟩ := H
         replace H : ((laws_heldCircuit.f kj40 t293 t311 t312 1).bind fun t313 => (if t313 < 0 then (some false) else (if t313 = t310 then ((laws_toNodeS.f kj40 l2).bind fun t314 => ((impl_GatesFor.f kj40 a0 a1 t314).bind fun bt317 => ((laws_eqCircuit.f kj40 bt317.1 bt317.2.1 bt317.2.2.1 t281 t282 t285).bind fun t326 => (if t326 = true then (laws_FnExactGatesFor.j2 kj40 t310 (bt317.2.2.2 != t288) t293 t311 t312) else (laws_FnExactGatesFor.j2 kj40 t310 true t293 t311 t312))))) else (some false)))) = some r := H
         have A58 := Aside0.mk A580
         clear A580
         replace H := Option.bind_eq_some_iff.mp H
         obtain ⟨t313, A590, H⟩ := H
         replace H : (if t313 < 0 then (some false) else (if t313 = t310 then ((laws_toNodeS.f kj40 l2).bind fun t314 => ((impl_GatesFor.f kj40 a0 a1 t314).bind fun bt317 => ((laws_eqCircuit.f kj40 bt317.1 bt317.2.1 bt317.2.2.1 t281 t282 t285).bind fun t326 => (if t326 = true then (laws_FnExactGatesFor.j2 kj40 t310 (bt317.2.2.2 != t288) t293 t311 t312) else (laws_FnExactGatesFor.j2 kj40 t310 true t293 t311 t312))))) else (some false))) = some r := H
         have A59 := Aside0.mk A590
         clear A590
         by_cases c60 : t313 < 0
         ·rw [if_pos c60] at H
          have c60b0 : decide (t313 < 0) = true := decide_eq_true c60
          clear c60
          obtain rfl := Option.some.inj H
          have hnb61 := NB301_289.out
          have hnc61 := NB289_301.out
          have hcz62_0 : wc.cell? ⟨gb301, 0, none⟩ = some (.int .i64 t293) := (blk_cell BK301.out 0).trans rfl
          have hcz62_1 : wc.cell? ⟨gb301, 1, none⟩ = some (.slice Ao24 t294.length co24) := (blk_cell BK301.out 1).trans rfl
          have hcz62_2 : wc.cell? ⟨gb301, 2, none⟩ = some (.slice Ao25 t297.length co25) := (blk_cell BK301.out 2).trans rfl
          have hfz62_0 := blk_frozen BK301.out 0
          have hfz62_1 := blk_frozen BK301.out 1
          have hfz62_2 := blk_frozen BK301.out 2
          go_wp2_with (first | ((with_reducible refine gate_callee (f := 15) rfl ?_); refine goesL_ (some 72) rfl rfl Try.func15 (by kernel_rfl) rfl #[.agg #[.int .i64 t293, .slice Ao24 t294.length co24, .slice Ao25 t297.length co25], .int .i64 1] rfl qG ?_; (with_reducible refine (laws_markCircuit.calls kj40 t293 (fun k_ => some k_ = (.slice Ao24 t294.length co24 : Value).ownBlock) (.slice Ao24 t294.length co24) t294 (fun k_ => some k_ = (.slice Ao25 t297.length co25 : Value).ownBlock) (.slice Ao25 t297.length co25) t297 1 t310 t311 t312 w _ ?side1 ?side2 ?side3 A58.out).mono ?_); (case side1 => repeat (first | (with_reducible first | exact HB.out | apply below_alloc | apply pw_below_drewN | apply below_drew1 | refine below_set ?_ GE289.out | refine below_set ?_ GE301.out) | exact HB.out)); (case side2 => exact Kd.R_tight rfl HO_302001.out); (case side3 => exact Kd.R_tight rfl HO_302002.out); rintro e w63 ⟨rfl, hy0, hy1, hb, hkp⟩; refine ⟨_, rfl, ?_⟩; have n0_ := Aside0.mk (Kd.R_mono (ok' := fun k_ => some k_ ≠ (.slice Ao24 t294.length co24 : Value).ownBlock) (Kd.R_keptB ((Kd.R_apart' HO_290001.out (Kd.R_typed HO_302002.out) (by decide))) hkp (fun k_ hk_ hs_ => Or.elim hs_ (fun e_ => (hk_.1) e_) (fun e_ => (hk_.2) e_))) (fun k_ hk_ => hk_.1.1)); have n1_ := Aside0.mk (Kd.R_mono (ok' := fun k_ => some k_ ≠ (.slice Ao25 t297.length co25 : Value).ownBlock) (Kd.R_keptB ((Kd.R_apart' HO_290002.out (Kd.R_typed HO_302001.out) (by decide))) hkp (fun k_ hk_ hs_ => Or.elim hs_ (fun e_ => (hk_.2) e_) (fun e_ => (hk_.1) e_))) (fun k_ hk_ => hk_.1.1)); have n2_ := Aside0.mk (Kd.R_reok rfl hy0 (fun k_ e_ => HO_302001.out.1 k_ e_)); have n3_ := Aside0.mk (Kd.R_reok rfl hy1 (fun k_ e_ => HO_302002.out.1 k_ e_)); have n4_ := Aside0.mk (blk_kept (qK BK289.out) hkp (fun hs_ => Or.elim hs_ (fun e_ => (fun e_ => (Kd.R_ne HO_302001.out BK289.out (by decide)) e_) e_) (fun e_ => (fun e_ => (Kd.R_ne HO_302002.out BK289.out (by decide)) e_) e_))); have n5_ := Aside0.mk (blk_kept (qK BK301.out) hkp (fun hs_ => Or.elim hs_ (fun e_ => (fun e_ => (Kd.R_ne HO_302001.out BK301.out (by decide)) e_) e_) (fun e_ => (fun e_ => (Kd.R_ne HO_302002.out BK301.out (by decide)) e_) e_))); have n6_ := Aside0.mk (hb); clear HO_290001; clear HO_290002; clear HO_302001; clear HO_302002; clear BK289; clear BK301; clear HB; have HO_290001 := n0_; have HO_290002 := n1_; have HO_302001 := n2_; have HO_302002 := n3_; have BK289 := n4_; have BK301 := n5_; have HB := n6_; clear n0_ n1_ n2_ n3_ n4_ n5_ n6_; (try clear hb); (try clear hkp); (try clear hy0); (try clear hy1); have hcz64_0 : w63.cell? ⟨gb301, 0, none⟩ = some (.int .i64 t293) := (blk_cell BK301.out 0).trans rfl; have hcz64_1 : w63.cell? ⟨gb301, 1, none⟩ = some (.slice Ao24 t294.length co24) := (blk_cell BK301.out 1).trans rfl; have hcz64_2 : w63.cell? ⟨gb301, 2, none⟩ = some (.slice Ao25 t297.length co25) := (blk_cell BK301.out 2).trans rfl; have hfz64_0 := blk_frozen BK301.out 0; have hfz64_1 := blk_frozen BK301.out 1; have hfz64_2 := blk_frozen BK301.out 2) | ((with_reducible refine gate_callee (f := 16) rfl ?_); refine goesL_ (some 75) rfl rfl Try.func16 (by kernel_rfl) rfl #[.agg #[.int .i64 t293, .slice Ao24 t311.length co24, .slice Ao25 t312.length co25], .int .i64 1] rfl (by (try simp only [List.map_toArray, List.map_cons, List.map_nil]); first | done | (rw [show t311.length = t294.length from (Kd.R_reads' HO_302001.out).1.symm, show t312.length = t297.length from (Kd.R_reads' HO_302002.out).1.symm] <;> rfl) | rfl | (simp only [List.length_drop, List.length_take]; rfl)) ?_; (with_reducible refine (laws_heldCircuit.calls kj40 t293 _ _ t311 _ _ t312 1 t313 _ ?side1 ?side2 ?side3 ?side4 A59.out).mono ?_); (case side1 => repeat (first | exact (Kd.R_reads' HO_302001.out).2.2 | (with_reducible refine Kd.C_alloc ?_ _) | (with_reducible refine Kd.C_drewN ?_ _) | (with_reducible refine Kd.C_drew ?_))); (case side2 => rw [show t311.length = t294.length from (Kd.R_reads' HO_302001.out).1.symm]; exact (Kd.R_reads' HO_302001.out).2.1); (case side3 => repeat (first | exact (Kd.R_reads' HO_302002.out).2.2 | (with_reducible refine Kd.C_alloc ?_ _) | (with_reducible refine Kd.C_drewN ?_ _) | (with_reducible refine Kd.C_drew ?_))); (case side4 => rw [show t312.length = t297.length from (Kd.R_reads' HO_302002.out).1.symm]; exact (Kd.R_reads' HO_302002.out).2.1); rintro e w65 ⟨rfl, hb⟩; refine ⟨_, rfl, ?_⟩; have n0_ := Aside0.mk (Kd.R_below (qR HO_290001.out) hb); have n1_ := Aside0.mk (Kd.R_below (qR HO_290002.out) hb); have n2_ := Aside0.mk (Kd.R_below (qR HO_302001.out) hb); have n3_ := Aside0.mk (Kd.R_below (qR HO_302002.out) hb); have n4_ := Aside0.mk (blk_below (g := gb289) (o := .cells #[.int .i64 t281, .slice Ao16 t282.length co16, .slice Ao17 t285.length co17] 27 (0, 0)) (qK BK289.out) hb); have n5_ := Aside0.mk (blk_below (g := gb301) (o := .cells #[.int .i64 t293, .slice Ao24 t294.length co24, .slice Ao25 t297.length co25] 27 (0, 0)) (qK BK301.out) hb); have n6_ := Aside0.mk (below_step (qB) hb); clear HO_290001; clear HO_290002; clear HO_302001; clear HO_302002; clear BK289; clear BK301; clear HB; have HO_290001 := n0_; have HO_290002 := n1_; have HO_302001 := n2_; have HO_302002 := n3_; have BK289 := n4_; have BK301 := n5_; have HB := n6_; clear n0_ n1_ n2_ n3_ n4_ n5_ n6_; (try clear hb); (try clear hb2); (try clear hk); (try clear hi)))
          go_ret
          exact ⟨qE, qB⟩
         ·rw [if_neg c60] at H
          have c60b0 : decide (t313 < 0) = false := decide_eq_false c60
          clear c60
          by_cases c66 : t313 = t310
          ·rw [if_pos c66] at H
           have c66b0 : (t313 == t310) = true := beq_iff_eq.mpr c66
           have c66b1 : (t313 != t310) = false := bne_eq_false_iff_eq.mpr c66
           clear c66
           replace H := Option.bind_eq_some_iff.mp H
           obtain ⟨t314, A670, H⟩ := H
           replace H : ((impl_GatesFor.f kj40 a0 a1 t314).bind fun bt317 => ((laws_eqCircuit.f kj40 bt317.1 bt317.2.1 bt317.2.2.1 t281 t282 t285).bind fun t326 => (if t326 = true then (laws_FnExactGatesFor.j2 kj40 t310 (bt317.2.2.2 != t288) t293 t311 t312) else (laws_FnExactGatesFor.j2 kj40 t310 true t293 t311 t312)))) = some r := H
           have A67 := Aside0.mk A670
           clear A670
           replace H := Option.bind_eq_some_iff.mp H
           obtain ⟨⟨t317, t318, t321, t324⟩, A680, H⟩ := H
           replace H : ((laws_eqCircuit.f kj40 t317 t318 t321 t281 t282 t285).bind fun t326 => (if t326 = true then (laws_FnExactGatesFor.j2 kj40 t310 (t324 != t288) t293 t311 t312) else (laws_FnExactGatesFor.j2 kj40 t310 true t293 t311 t312))) = some r := H
           have A68 := Aside0.mk A680
           clear A680
           have HC69 := Aside0.mk H
           clear H
           have hnb70 := NB301_289.out
           have hnc70 := NB289_301.out
           have hcz71_0 : wc.cell? ⟨gb301, 0, none⟩ = some (.int .i64 t293) := (blk_cell BK301.out 0).trans rfl
           have hcz71_1 : wc.cell? ⟨gb301, 1, none⟩ = some (.slice Ao24 t294.length co24) := (blk_cell BK301.out 1).trans rfl
           have hcz71_2 : wc.cell? ⟨gb301, 2, none⟩ = some (.slice Ao25 t297.length co25) := (blk_cell BK301.out 2).trans rfl
           have hfz71_0 := blk_frozen BK301.out 0
           have hfz71_1 := blk_frozen BK301.out 1
           have hfz71_2 := blk_frozen BK301.out 2
           go_upto_region 25 with (first | ((with_reducible refine gate_callee (f := 15) rfl ?_); refine goesL_ (some 72) rfl rfl Try.func15 (by kernel_rfl) rfl #[.agg #[.int .i64 t293, .slice Ao24 t294.length co24, .slice Ao25 t297.length co25], .int .i64 1] rfl qG ?_; (with_reducible refine (laws_markCircuit.calls kj40 t293 (fun k_ => some k_ = (.slice Ao24 t294.length co24 : Value).ownBlock) (.slice Ao24 t294.length co24) t294 (fun k_ => some k_ = (.slice Ao25 t297.length co25 : Value).ownBlock) (.slice Ao25 t297.length co25) t297 1 t310 t311 t312 w _ ?side1 ?side2 ?side3 A58.out).mono ?_); (case side1 => repeat (first | (with_reducible first | exact HB.out | apply below_alloc | apply pw_below_drewN | apply below_drew1 | refine below_set ?_ GE289.out | refine below_set ?_ GE301.out) | exact HB.out)); (case side2 => exact Kd.R_tight rfl HO_302001.out); (case side3 => exact Kd.R_tight rfl HO_302002.out); rintro e w72 ⟨rfl, hy0, hy1, hb, hkp⟩; refine ⟨_, rfl, ?_⟩; have n0_ := Aside0.mk (Kd.R_mono (ok' := fun k_ => some k_ ≠ (.slice Ao24 t294.length co24 : Value).ownBlock) (Kd.R_keptB ((Kd.R_apart' HO_290001.out (Kd.R_typed HO_302002.out) (by decide))) hkp (fun k_ hk_ hs_ => Or.elim hs_ (fun e_ => (hk_.1) e_) (fun e_ => (hk_.2) e_))) (fun k_ hk_ => hk_.1.1)); have n1_ := Aside0.mk (Kd.R_mono (ok' := fun k_ => some k_ ≠ (.slice Ao25 t297.length co25 : Value).ownBlock) (Kd.R_keptB ((Kd.R_apart' HO_290002.out (Kd.R_typed HO_302001.out) (by decide))) hkp (fun k_ hk_ hs_ => Or.elim hs_ (fun e_ => (hk_.2) e_) (fun e_ => (hk_.1) e_))) (fun k_ hk_ => hk_.1.1)); have n2_ := Aside0.mk (Kd.R_reok rfl hy0 (fun k_ e_ => HO_302001.out.1 k_ e_)); have n3_ := Aside0.mk (Kd.R_reok rfl hy1 (fun k_ e_ => HO_302002.out.1 k_ e_)); have n4_ := Aside0.mk (blk_kept (qK BK289.out) hkp (fun hs_ => Or.elim hs_ (fun e_ => (fun e_ => (Kd.R_ne HO_302001.out BK289.out (by decide)) e_) e_) (fun e_ => (fun e_ => (Kd.R_ne HO_302002.out BK289.out (by decide)) e_) e_))); have n5_ := Aside0.mk (blk_kept (qK BK301.out) hkp (fun hs_ => Or.elim hs_ (fun e_ => (fun e_ => (Kd.R_ne HO_302001.out BK301.out (by decide)) e_) e_) (fun e_ => (fun e_ => (Kd.R_ne HO_302002.out BK301.out (by decide)) e_) e_))); have n6_ := Aside0.mk (hb); clear HO_290001; clear HO_290002; clear HO_302001; clear HO_302002; clear BK289; clear BK301; clear HB; have HO_290001 := n0_; have HO_290002 := n1_; have HO_302001 := n2_; have HO_302002 := n3_; have BK289 := n4_; have BK301 := n5_; have HB := n6_; clear n0_ n1_ n2_ n3_ n4_ n5_ n6_; (try clear hb); (try clear hkp); (try clear hy0); (try clear hy1); have hcz73_0 : w72.cell? ⟨gb301, 0, none⟩ = some (.int .i64 t293) := (blk_cell BK301.out 0).trans rfl; have hcz73_1 : w72.cell? ⟨gb301, 1, none⟩ = some (.slice Ao24 t294.length co24) := (blk_cell BK301.out 1).trans rfl; have hcz73_2 : w72.cell? ⟨gb301, 2, none⟩ = some (.slice Ao25 t297.length co25) := (blk_cell BK301.out 2).trans rfl; have hfz73_0 := blk_frozen BK301.out 0; have hfz73_1 := blk_frozen BK301.out 1; have hfz73_2 := blk_frozen BK301.out 2) | ((with_reducible refine gate_callee (f := 16) rfl ?_); refine goesL_ (some 75) rfl rfl Try.func16 (by kernel_rfl) rfl #[.agg #[.int .i64 t293, .slice Ao24 t311.length co24, .slice Ao25 t312.length co25], .int .i64 1] rfl (by (try simp only [List.map_toArray, List.map_cons, List.map_nil]); first | done | (rw [show t311.length = t294.length from (Kd.R_reads' HO_302001.out).1.symm, show t312.length = t297.length from (Kd.R_reads' HO_302002.out).1.symm] <;> rfl) | rfl | (simp only [List.length_drop, List.length_take]; rfl)) ?_; (with_reducible refine (laws_heldCircuit.calls kj40 t293 _ _ t311 _ _ t312 1 t313 _ ?side1 ?side2 ?side3 ?side4 A59.out).mono ?_); (case side1 => repeat (first | exact (Kd.R_reads' HO_302001.out).2.2 | (with_reducible refine Kd.C_alloc ?_ _) | (with_reducible refine Kd.C_drewN ?_ _) | (with_reducible refine Kd.C_drew ?_))); (case side2 => rw [show t311.length = t294.length from (Kd.R_reads' HO_302001.out).1.symm]; exact (Kd.R_reads' HO_302001.out).2.1); (case side3 => repeat (first | exact (Kd.R_reads' HO_302002.out).2.2 | (with_reducible refine Kd.C_alloc ?_ _) | (with_reducible refine Kd.C_drewN ?_ _) | (with_reducible refine Kd.C_drew ?_))); (case side4 => rw [show t312.length = t297.length from (Kd.R_reads' HO_302002.out).1.symm]; exact (Kd.R_reads' HO_302002.out).2.1); rintro e w74 ⟨rfl, hb⟩; refine ⟨_, rfl, ?_⟩; have n0_ := Aside0.mk (Kd.R_below (qR HO_290001.out) hb); have n1_ := Aside0.mk (Kd.R_below (qR HO_290002.out) hb); have n2_ := Aside0.mk (Kd.R_below (qR HO_302001.out) hb); have n3_ := Aside0.mk (Kd.R_below (qR HO_302002.out) hb); have n4_ := Aside0.mk (blk_below (g := gb289) (o := .cells #[.int .i64 t281, .slice Ao16 t282.length co16, .slice Ao17 t285.length co17] 27 (0, 0)) (qK BK289.out) hb); have n5_ := Aside0.mk (blk_below (g := gb301) (o := .cells #[.int .i64 t293, .slice Ao24 t294.length co24, .slice Ao25 t297.length co25] 27 (0, 0)) (qK BK301.out) hb); have n6_ := Aside0.mk (below_step (qB) hb); clear HO_290001; clear HO_290002; clear HO_302001; clear HO_302002; clear BK289; clear BK301; clear HB; have HO_290001 := n0_; have HO_290002 := n1_; have HO_302001 := n2_; have HO_302002 := n3_; have BK289 := n4_; have BK301 := n5_; have HB := n6_; clear n0_ n1_ n2_ n3_ n4_ n5_ n6_; (try clear hb); (try clear hb2); (try clear hk); (try clear hi)) | ((with_reducible refine gate_callee (f := 10) rfl ?_); refine goesL_ (some 85) rfl rfl Try.func10 (by kernel_rfl) rfl #[.slice A2 l2.length c2] rfl qG ?_; (with_reducible refine (laws_toNodeS.calls kj40 _ _ l2 t314 _ ?side1 ?side2 A67.out).mono ?_); (case side1 => exact qC (Kd.C_below HR2.out HB.out)); (case side2 => exact HC2.out); rintro e w75 ⟨v315, rfl, ho0, hb⟩; refine ⟨_, rfl, ?_⟩; have n0_ := Aside0.mk (Kd.R_below (qR HO_290001.out) hb); have n1_ := Aside0.mk (Kd.R_below (qR HO_290002.out) hb); have n2_ := Aside0.mk (Kd.R_below (qR HO_302001.out) hb); have n3_ := Aside0.mk (Kd.R_below (qR HO_302002.out) hb); have n4_ := Aside0.mk (Kd.R_lower ho0 (below_size (qB))); have n5_ := Aside0.mk (blk_below (g := gb289) (o := .cells #[.int .i64 t281, .slice Ao16 t282.length co16, .slice Ao17 t285.length co17] 27 (0, 0)) (qK BK289.out) hb); have n6_ := Aside0.mk (blk_below (g := gb301) (o := .cells #[.int .i64 t293, .slice Ao24 t294.length co24, .slice Ao25 t297.length co25] 27 (0, 0)) (qK BK301.out) hb); have n7_ := Aside0.mk (below_step (qB) hb); clear HO_290001; clear HO_290002; clear HO_302001; clear HO_302002; clear BK289; clear BK301; clear HB; have HO_290001 := n0_; have HO_290002 := n1_; have HO_302001 := n2_; have HO_302002 := n3_; have HO316 := n4_; have BK289 := n5_; have BK301 := n6_; have HB := n7_; clear n0_ n1_ n2_ n3_ n4_ n5_ n6_ n7_; (try clear hb); (try clear hb2); (try clear hk); (try clear hi); (try clear ho0); obtain ⟨Ao76, co76, eo76⟩ := Kd.R_slice HO316.out; subst eo76) | ((with_reducible refine gate_callee (f := 11) rfl ?_); refine goesL_ (some 86) rfl rfl Try.func11 (by kernel_rfl) rfl #[.int .i64 a0, .int .i64 a1, .slice Ao76 t314.length co76] rfl qG ?_; (with_reducible refine (impl_GatesFor.calls kj40 a0 a1 _ _ t314 t317 t318 t321 t324 _ ?side1 ?side2 A68.out).mono ?_); (case side1 => repeat (first | exact (Kd.R_reads' HO316.out).2.2 | (with_reducible refine Kd.C_alloc ?_ _) | (with_reducible refine Kd.C_drewN ?_ _) | (with_reducible refine Kd.C_drew ?_))); (case side2 => exact (Kd.R_reads' HO316.out).2.1); rintro e w77 ⟨v319, v322, rfl, ho0, ho1, hb⟩; refine ⟨_, rfl, ?_⟩; have n0_ := Aside0.mk (Kd.R_elder' (qR HO_290001.out) (Kd.R_base ho0) hb); have n1_ := Aside0.mk (Kd.R_elder' (qR HO_290002.out) (Kd.R_base ho1) hb); have n2_ := Aside0.mk (Kd.R_elder' (qR HO_302001.out) (Kd.R_base ho0) hb); have n3_ := Aside0.mk (Kd.R_elder' (qR HO_302002.out) (Kd.R_base ho1) hb); have n4_ := Aside0.mk (Kd.R_below (qR HO316.out) hb); have n5_ := Aside0.mk (Kd.R_lower (Kd.R_new' (Kd.R_new' ho0 (Kd.R_lt (qR HO_290001.out))) (Kd.R_lt (qR HO_302001.out))) (below_size (qB))); have n6_ := Aside0.mk (Kd.R_lower (Kd.R_new' (Kd.R_new' ho1 (Kd.R_lt (qR HO_290002.out))) (Kd.R_lt (qR HO_302002.out))) (below_size (qB))); have n7_ := Aside0.mk (blk_below (g := gb289) (o := .cells #[.int .i64 t281, .slice Ao16 t282.length co16, .slice Ao17 t285.length co17] 27 (0, 0)) (qK BK289.out) hb); have n8_ := Aside0.mk (blk_below (g := gb301) (o := .cells #[.int .i64 t293, .slice Ao24 t294.length co24, .slice Ao25 t297.length co25] 27 (0, 0)) (qK BK301.out) hb); have n9_ := Aside0.mk (below_step (qB) hb); clear HO_290001; clear HO_290002; clear HO_302001; clear HO_302002; clear HO316; clear BK289; clear BK301; clear HB; have HO_290001 := n0_; have HO_290002 := n1_; have HO_302001 := n2_; have HO_302002 := n3_; have HO316 := n4_; have HO320 := n5_; have HO323 := n6_; have BK289 := n7_; have BK301 := n8_; have HB := n9_; clear n0_ n1_ n2_ n3_ n4_ n5_ n6_ n7_ n8_ n9_; (try clear hb); (try clear hb2); (try clear hk); (try clear hi); (try clear ho0); (try clear ho1)) | ((with_reducible refine gate_dst (N := 16) rfl ?_); refine box_event ?hg (N := 16) ?hd (cs := #[.int .i64 0, .slice none 0 0, .slice none 0 0]) (t := 27) ?hr ?_; (case hd => rfl); (case hg => rfl); (case hr => first | (go_simp; done) | (go_simp; rfl)); intro gb325 hg w78 hbox hb; have n0_ := Aside0.mk (Kd.R_below (qR HO_290001.out) hb); have n1_ := Aside0.mk (Kd.R_below (qR HO_290002.out) hb); have n2_ := Aside0.mk (Kd.R_below (qR HO_302001.out) hb); have n3_ := Aside0.mk (Kd.R_below (qR HO_302002.out) hb); have n4_ := Aside0.mk (Kd.R_below (qR HO316.out) hb); have n5_ := Aside0.mk (Kd.R_below (qR HO320.out) hb); have n6_ := Aside0.mk (Kd.R_below (qR HO323.out) hb); have n7_ := Aside0.mk (blk_below (g := gb289) (o := .cells #[.int .i64 t281, .slice Ao16 t282.length co16, .slice Ao17 t285.length co17] 27 (0, 0)) (qK BK289.out) hb); have n8_ := Aside0.mk (blk_below (g := gb301) (o := .cells #[.int .i64 t293, .slice Ao24 t294.length co24, .slice Ao25 t297.length co25] 27 (0, 0)) (qK BK301.out) hb); have n9_ := Aside0.mk (below_step (qB) hb); have n10_ := Aside0.mk (hbox); have n11_ := Aside0.mk ((by rw [hg]; exact (below_size (qB)) : w.heap.size ≤ gb325)); have n12_ := Aside0.mk ((by rw [hg]; exact (below_size (qB)) : w.heap.size ≤ gb325)); have n13_ := Aside0.mk ((by rw [hg]; exact Nat.ne_of_lt (blk_lt (g := gb289) (o := .cells #[.int .i64 t281, .slice Ao16 t282.length co16, .slice Ao17 t285.length co17] 27 (0, 0)) (qK BK289.out)) : gb289 ≠ gb325)); have n14_ := Aside0.mk ((by rw [hg]; exact Nat.ne_of_gt (blk_lt (g := gb289) (o := .cells #[.int .i64 t281, .slice Ao16 t282.length co16, .slice Ao17 t285.length co17] 27 (0, 0)) (qK BK289.out)) : gb325 ≠ gb289)); have n15_ := Aside0.mk ((by rw [hg]; exact Nat.ne_of_lt (blk_lt (g := gb301) (o := .cells #[.int .i64 t293, .slice Ao24 t294.length co24, .slice Ao25 t297.length co25] 27 (0, 0)) (qK BK301.out)) : gb301 ≠ gb325)); have n16_ := Aside0.mk ((by rw [hg]; exact Nat.ne_of_gt (blk_lt (g := gb301) (o := .cells #[.int .i64 t293, .slice Ao24 t294.length co24, .slice Ao25 t297.length co25] 27 (0, 0)) (qK BK301.out)) : gb325 ≠ gb301)); clear HO_290001; clear HO_290002; clear HO_302001; clear HO_302002; clear HO316; clear HO320; clear HO323; clear BK289; clear BK301; clear HB; have HO_290001 := n0_; have HO_290002 := n1_; have HO_302001 := n2_; have HO_302002 := n3_; have HO316 := n4_; have HO320 := n5_; have HO323 := n6_; have BK289 := n7_; have BK301 := n8_; have HB := n9_; have BK325 := n10_; have GW325 := n11_; have GE325 := n12_; have NB289_325 := n13_; have NB325_289 := n14_; have NB301_325 := n15_; have NB325_301 := n16_; clear n0_ n1_ n2_ n3_ n4_ n5_ n6_ n7_ n8_ n9_ n10_ n11_ n12_ n13_ n14_ n15_ n16_; clear hb hbox hg; have hnb79 := NB325_289.out; have hnc79 := NB289_325.out; have hnb80 := NB325_301.out; have hnc80 := NB301_325.out; have hcz81_0 : w78.cell? ⟨gb325, 0, none⟩ = some (.int .i64 0) := (blk_cell BK325.out 0).trans rfl; have hcz81_1 : w78.cell? ⟨gb325, 1, none⟩ = some (.slice none 0 0) := (blk_cell BK325.out 1).trans rfl; have hcz81_2 : w78.cell? ⟨gb325, 2, none⟩ = some (.slice none 0 0) := (blk_cell BK325.out 2).trans rfl; have hfz81_0 := blk_frozen BK325.out 0; have hfz81_1 := blk_frozen BK325.out 1; have hfz81_2 := blk_frozen BK325.out 2; obtain ⟨Ao82, co82, eo82⟩ := Kd.R_slice HO320.out; subst eo82; obtain ⟨Ao83, co83, eo83⟩ := Kd.R_slice HO323.out; subst eo83))
           (try simp only [Act.put, List.setIfInBounds_toArray, List.set_cons_zero, List.set_cons_succ])
           go_cut [97] (fun v97 wc => ∃ (kq : Nat) (x97_68 : Bool), v97 = .bool x97_68 ∧ Aside0 (laws_FnExactGatesFor.j2 kq t310 x97_68 t293 t311 t312 = some r) ∧ Aside0 (kq ≤ kj40) ∧ Aside0 (Kd.R k93 93 wc w.heap.size (fun k_ => some k_ ≠ ((.slice Ao24 t294.length co24) : Value).ownBlock ∧ some k_ ≠ ((.slice Ao82 t318.length co82) : Value).ownBlock) (.slice Ao16 t282.length co16) t282) ∧ Aside0 (Kd.R (Kd.int .i64) 3 wc w.heap.size (fun k_ => some k_ ≠ ((.slice Ao25 t297.length co25) : Value).ownBlock ∧ some k_ ≠ ((.slice Ao83 t321.length co83) : Value).ownBlock) (.slice Ao17 t285.length co17) t285) ∧ Aside0 (Kd.R k93 93 wc w.heap.size (fun k_ => some k_ ≠ ((.slice Ao16 t282.length co16) : Value).ownBlock ∧ some k_ ≠ ((.slice Ao82 t318.length co82) : Value).ownBlock) (.slice Ao24 t294.length co24) t311) ∧ Aside0 (Kd.R (Kd.int .i64) 3 wc w.heap.size (fun k_ => some k_ ≠ ((.slice Ao17 t285.length co17) : Value).ownBlock ∧ some k_ ≠ ((.slice Ao83 t321.length co83) : Value).ownBlock) (.slice Ao25 t297.length co25) t312) ∧ Aside0 (Kd.R k93 93 wc w.heap.size (fun k_ => some k_ ≠ ((.slice Ao16 t282.length co16) : Value).ownBlock ∧ some k_ ≠ ((.slice Ao24 t294.length co24) : Value).ownBlock) (.slice Ao82 t318.length co82) t318) ∧ Aside0 (Kd.R (Kd.int .i64) 3 wc w.heap.size (fun k_ => some k_ ≠ ((.slice Ao17 t285.length co17) : Value).ownBlock ∧ some k_ ≠ ((.slice Ao25 t297.length co25) : Value).ownBlock) (.slice Ao83 t321.length co83) t321) ∧ Aside0 (wc.heap[gb289]? = some (.cells #[.int .i64 t281, (.slice Ao16 t282.length co16), (.slice Ao17 t285.length co17)] 27 (0, 0))) ∧ Aside0 (wc.heap[gb301]? = some (.cells #[.int .i64 t293, (.slice Ao24 t294.length co24), (.slice Ao25 t297.length co25)] 27 (0, 0))) ∧ Aside0 (wc.heap[gb325]? = some (.cells #[.int .i64 t317, (.slice Ao82 t318.length co82), (.slice Ao83 t321.length co83)] 27 (0, 0))) ∧ Aside0 (Below w.heap.size w wc))
           case first =>
            have H := HC69.out
            clear HC69
            replace H := Option.bind_eq_some_iff.mp H
            obtain ⟨t326, A840, H⟩ := H
            replace H : (if t326 = true then (laws_FnExactGatesFor.j2 kj40 t310 (t324 != t288) t293 t311 t312) else (laws_FnExactGatesFor.j2 kj40 t310 true t293 t311 t312)) = some r := H
            have A84 := Aside0.mk A840
            clear A840
            by_cases c85 : t326 = true
            ·subst c85
             have H1 : (laws_FnExactGatesFor.j2 kj40 t310 (t324 != t288) t293 t311 t312) = some r := by rw [if_pos rfl] at H; exact H
             clear H
             have H := H1
             clear H1
             have H' := Aside0.mk H
             clear H
             have hnb86 := NB325_289.out
             have hnc86 := NB289_325.out
             have hnb87 := NB325_301.out
             have hnc87 := NB301_325.out
             have hcz88_0 : w78.cell? ⟨gb325, 0, none⟩ = some (.int .i64 0) := (blk_cell BK325.out 0).trans rfl
             have hcz88_1 : w78.cell? ⟨gb325, 1, none⟩ = some (.slice none 0 0) := (blk_cell BK325.out 1).trans rfl
             have hcz88_2 : w78.cell? ⟨gb325, 2, none⟩ = some (.slice none 0 0) := (blk_cell BK325.out 2).trans rfl
             have hfz88_0 := blk_frozen BK325.out 0
             have hfz88_1 := blk_frozen BK325.out 1
             have hfz88_2 := blk_frozen BK325.out 2
             have hnb89 := NB289_301.out
             have hnc89 := NB301_289.out
             have hcz90_0 : w78.cell? ⟨gb289, 0, none⟩ = some (.int .i64 t281) := (blk_cell BK289.out 0).trans rfl
             have hcz90_1 : w78.cell? ⟨gb289, 1, none⟩ = some (.slice Ao16 t282.length co16) := (blk_cell BK289.out 1).trans rfl
             have hcz90_2 : w78.cell? ⟨gb289, 2, none⟩ = some (.slice Ao17 t285.length co17) := (blk_cell BK289.out 2).trans rfl
             have hfz90_0 := blk_frozen BK289.out 0
             have hfz90_1 := blk_frozen BK289.out 1
             have hfz90_2 := blk_frozen BK289.out 2
             go_wp2_with (first | ((with_reducible refine gate_callee (f := 12) rfl ?_); refine goesL_ (some 91) rfl rfl Try.func12 (by kernel_rfl) rfl #[.agg #[.int .i64 t317, .slice Ao82 t318.length co82, .slice Ao83 t321.length co83], .agg #[.int .i64 t281, .slice Ao16 t282.length co16, .slice Ao17 t285.length co17]] rfl qG ?_; (with_reducible refine (laws_eqCircuit.calls kj40 t317 _ _ t318 _ _ t321 t281 _ _ t282 _ _ t285 true _ ?side1 ?side2 ?side3 ?side4 ?side5 ?side6 ?side7 ?side8 A84.out).mono ?_); (case side1 => refine (Kd.R_reads' (e := 93) (base := w.heap.size) (ok := fun k_ => ((True ∧ some k_ ≠ (.slice Ao16 t282.length co16 : Value).ownBlock) ∧ some k_ ≠ (.slice Ao24 t294.length co24 : Value).ownBlock)) (n := t318.length) (c := co82) ?_).2.2; exact (by (with_reducible repeat (first | apply Kd.R_alloc | apply Kd.R_drewN | apply Kd.R_drew)); exact (Kd.R_mono (Kd.R_far (p := ⟨gb325, 2, none⟩) (Kd.R_far (p := ⟨gb325, 1, none⟩) (Kd.R_far (p := ⟨gb325, 0, none⟩) (Kd.R_types HO320.out BK325.out (by decide)) (fun _ hk => hk.2) (.int .i64 t317)) (fun _ hk => hk.2) (.slice Ao82 t318.length co82)) (fun _ hk => hk.2) (.slice Ao83 t321.length co83)) (fun _ h_ => h_.1)))); (case side2 => exact (Kd.R_reads' HO320.out).2.1); (case side3 => refine (Kd.R_reads' (e := 3) (base := w.heap.size) (ok := fun k_ => ((True ∧ some k_ ≠ (.slice Ao17 t285.length co17 : Value).ownBlock) ∧ some k_ ≠ (.slice Ao25 t297.length co25 : Value).ownBlock)) (n := t321.length) (c := co83) ?_).2.2; exact (by (with_reducible repeat (first | apply Kd.R_alloc | apply Kd.R_drewN | apply Kd.R_drew)); exact (Kd.R_mono (Kd.R_far (p := ⟨gb325, 2, none⟩) (Kd.R_far (p := ⟨gb325, 1, none⟩) (Kd.R_far (p := ⟨gb325, 0, none⟩) (Kd.R_types HO323.out BK325.out (by decide)) (fun _ hk => hk.2) (.int .i64 t317)) (fun _ hk => hk.2) (.slice Ao82 t318.length co82)) (fun _ hk => hk.2) (.slice Ao83 t321.length co83)) (fun _ h_ => h_.1)))); (case side4 => exact (Kd.R_reads' HO323.out).2.1); (case side5 => refine (Kd.R_reads' (e := 93) (base := w.heap.size) (ok := fun k_ => (some k_ ≠ (.slice Ao24 t294.length co24 : Value).ownBlock ∧ some k_ ≠ (.slice Ao82 t318.length co82 : Value).ownBlock)) (n := t282.length) (c := co16) ?_).2.2; exact (by (with_reducible repeat (first | apply Kd.R_alloc | apply Kd.R_drewN | apply Kd.R_drew)); exact (Kd.R_mono (Kd.R_far (p := ⟨gb325, 2, none⟩) (Kd.R_far (p := ⟨gb325, 1, none⟩) (Kd.R_far (p := ⟨gb325, 0, none⟩) (Kd.R_types HO_290001.out BK325.out (by decide)) (fun _ hk => hk.2) (.int .i64 t317)) (fun _ hk => hk.2) (.slice Ao82 t318.length co82)) (fun _ hk => hk.2) (.slice Ao83 t321.length co83)) (fun _ h_ => h_.1)))); (case side6 => exact (Kd.R_reads' HO_290001.out).2.1); (case side7 => refine (Kd.R_reads' (e := 3) (base := w.heap.size) (ok := fun k_ => (some k_ ≠ (.slice Ao25 t297.length co25 : Value).ownBlock ∧ some k_ ≠ (.slice Ao83 t321.length co83 : Value).ownBlock)) (n := t285.length) (c := co17) ?_).2.2; exact (by (with_reducible repeat (first | apply Kd.R_alloc | apply Kd.R_drewN | apply Kd.R_drew)); exact (Kd.R_mono (Kd.R_far (p := ⟨gb325, 2, none⟩) (Kd.R_far (p := ⟨gb325, 1, none⟩) (Kd.R_far (p := ⟨gb325, 0, none⟩) (Kd.R_types HO_290002.out BK325.out (by decide)) (fun _ hk => hk.2) (.int .i64 t317)) (fun _ hk => hk.2) (.slice Ao82 t318.length co82)) (fun _ hk => hk.2) (.slice Ao83 t321.length co83)) (fun _ h_ => h_.1)))); (case side8 => exact (Kd.R_reads' HO_290002.out).2.1); rintro e w91 ⟨rfl, hb⟩; refine ⟨_, rfl, ?_⟩; have n0_ := Aside0.mk (Kd.R_below (by (with_reducible repeat (first | apply Kd.R_alloc | apply Kd.R_drewN | apply Kd.R_drew)); exact (Kd.R_mono (Kd.R_far (p := ⟨gb325, 2, none⟩) (Kd.R_far (p := ⟨gb325, 1, none⟩) (Kd.R_far (p := ⟨gb325, 0, none⟩) (Kd.R_types HO_290001.out BK325.out (by decide)) (fun _ hk => hk.2) (.int .i64 t317)) (fun _ hk => hk.2) (.slice Ao82 t318.length co82)) (fun _ hk => hk.2) (.slice Ao83 t321.length co83)) (fun _ h_ => h_.1))) hb); have n1_ := Aside0.mk (Kd.R_below (by (with_reducible repeat (first | apply Kd.R_alloc | apply Kd.R_drewN | apply Kd.R_drew)); exact (Kd.R_mono (Kd.R_far (p := ⟨gb325, 2, none⟩) (Kd.R_far (p := ⟨gb325, 1, none⟩) (Kd.R_far (p := ⟨gb325, 0, none⟩) (Kd.R_types HO_290002.out BK325.out (by decide)) (fun _ hk => hk.2) (.int .i64 t317)) (fun _ hk => hk.2) (.slice Ao82 t318.length co82)) (fun _ hk => hk.2) (.slice Ao83 t321.length co83)) (fun _ h_ => h_.1))) hb); have n2_ := Aside0.mk (Kd.R_below (by (with_reducible repeat (first | apply Kd.R_alloc | apply Kd.R_drewN | apply Kd.R_drew)); exact (Kd.R_mono (Kd.R_far (p := ⟨gb325, 2, none⟩) (Kd.R_far (p := ⟨gb325, 1, none⟩) (Kd.R_far (p := ⟨gb325, 0, none⟩) (Kd.R_types HO_302001.out BK325.out (by decide)) (fun _ hk => hk.2) (.int .i64 t317)) (fun _ hk => hk.2) (.slice Ao82 t318.length co82)) (fun _ hk => hk.2) (.slice Ao83 t321.length co83)) (fun _ h_ => h_.1))) hb); have n3_ := Aside0.mk (Kd.R_below (by (with_reducible repeat (first | apply Kd.R_alloc | apply Kd.R_drewN | apply Kd.R_drew)); exact (Kd.R_mono (Kd.R_far (p := ⟨gb325, 2, none⟩) (Kd.R_far (p := ⟨gb325, 1, none⟩) (Kd.R_far (p := ⟨gb325, 0, none⟩) (Kd.R_types HO_302002.out BK325.out (by decide)) (fun _ hk => hk.2) (.int .i64 t317)) (fun _ hk => hk.2) (.slice Ao82 t318.length co82)) (fun _ hk => hk.2) (.slice Ao83 t321.length co83)) (fun _ h_ => h_.1))) hb); have n4_ := Aside0.mk (Kd.R_below (by (with_reducible repeat (first | apply Kd.R_alloc | apply Kd.R_drewN | apply Kd.R_drew)); exact (Kd.R_mono (Kd.R_far (p := ⟨gb325, 2, none⟩) (Kd.R_far (p := ⟨gb325, 1, none⟩) (Kd.R_far (p := ⟨gb325, 0, none⟩) (Kd.R_types HO316.out BK325.out (by decide)) (fun _ hk => hk.2) (.int .i64 t317)) (fun _ hk => hk.2) (.slice Ao82 t318.length co82)) (fun _ hk => hk.2) (.slice Ao83 t321.length co83)) (fun _ h_ => h_.1))) hb); have n5_ := Aside0.mk (Kd.R_below (by (with_reducible repeat (first | apply Kd.R_alloc | apply Kd.R_drewN | apply Kd.R_drew)); exact (Kd.R_mono (Kd.R_far (p := ⟨gb325, 2, none⟩) (Kd.R_far (p := ⟨gb325, 1, none⟩) (Kd.R_far (p := ⟨gb325, 0, none⟩) (Kd.R_types HO320.out BK325.out (by decide)) (fun _ hk => hk.2) (.int .i64 t317)) (fun _ hk => hk.2) (.slice Ao82 t318.length co82)) (fun _ hk => hk.2) (.slice Ao83 t321.length co83)) (fun _ h_ => h_.1))) hb); have n6_ := Aside0.mk (Kd.R_below (by (with_reducible repeat (first | apply Kd.R_alloc | apply Kd.R_drewN | apply Kd.R_drew)); exact (Kd.R_mono (Kd.R_far (p := ⟨gb325, 2, none⟩) (Kd.R_far (p := ⟨gb325, 1, none⟩) (Kd.R_far (p := ⟨gb325, 0, none⟩) (Kd.R_types HO323.out BK325.out (by decide)) (fun _ hk => hk.2) (.int .i64 t317)) (fun _ hk => hk.2) (.slice Ao82 t318.length co82)) (fun _ hk => hk.2) (.slice Ao83 t321.length co83)) (fun _ h_ => h_.1))) hb); have n7_ := Aside0.mk (blk_below (g := gb289) (o := .cells #[.int .i64 t281, .slice Ao16 t282.length co16, .slice Ao17 t285.length co17] 27 (0, 0)) (qF BK289.out) hb); have n8_ := Aside0.mk (blk_below (g := gb301) (o := .cells #[.int .i64 t293, .slice Ao24 t294.length co24, .slice Ao25 t297.length co25] 27 (0, 0)) (qF BK301.out) hb); have n9_ := Aside0.mk (blk_below (g := gb325) (o := .cells #[.int .i64 t317, .slice Ao82 t318.length co82, .slice Ao83 t321.length co83] 27 (0, 0)) (by (with_reducible repeat (first | refine blk_drewN ?_ _ | refine blk_drew ?_ | refine blk_alloc ?_ _)); refine blk_put (cs := #[.int .i64 t317, .slice Ao82 t318.length co82, .slice none 0 0]) ?_ 2 _ rfl; (with_reducible repeat (first | refine blk_drewN ?_ _ | refine blk_drew ?_ | refine blk_alloc ?_ _)); refine blk_put (cs := #[.int .i64 t317, .slice none 0 0, .slice none 0 0]) ?_ 1 _ rfl; (with_reducible repeat (first | refine blk_drewN ?_ _ | refine blk_drew ?_ | refine blk_alloc ?_ _)); refine blk_put (cs := #[.int .i64 0, .slice none 0 0, .slice none 0 0]) ?_ 0 _ rfl; (with_reducible repeat (first | refine blk_drewN ?_ _ | refine blk_drew ?_ | refine blk_alloc ?_ _)); exact BK325.out) hb); have n10_ := Aside0.mk (below_step (qB) hb); clear HO_290001; clear HO_290002; clear HO_302001; clear HO_302002; clear HO316; clear HO320; clear HO323; clear BK289; clear BK301; clear BK325; clear HB; have HO_290001 := n0_; have HO_290002 := n1_; have HO_302001 := n2_; have HO_302002 := n3_; have HO316 := n4_; have HO320 := n5_; have HO323 := n6_; have BK289 := n7_; have BK301 := n8_; have BK325 := n9_; have HB := n10_; clear n0_ n1_ n2_ n3_ n4_ n5_ n6_ n7_ n8_ n9_ n10_; (try clear hb); (try clear hb2); (try clear hk); (try clear hi)))
             go_meet
             case rel => exact ⟨_, ((t324 != t288)), qS, H', ⟨by have := HJ9.out; have := HJ40.out; first | omega | exact Nat.le_refl _⟩, ⟨qR HO_290001.out⟩, ⟨qR HO_290002.out⟩, ⟨qR HO_302001.out⟩, ⟨qR HO_302002.out⟩, ⟨by (with_reducible repeat (first | apply Kd.R_alloc | apply Kd.R_drewN | apply Kd.R_drew)); exact Kd.R_mono HO320.out (fun _ hk => ⟨hk.1.2, hk.2⟩)⟩, ⟨by (with_reducible repeat (first | apply Kd.R_alloc | apply Kd.R_drewN | apply Kd.R_drew)); exact Kd.R_mono HO323.out (fun _ hk => ⟨hk.1.2, hk.2⟩)⟩, ⟨by (with_reducible repeat (first | refine blk_drewN ?_ _ | refine blk_drew ?_ | refine blk_alloc ?_ _)); exact BK289.out⟩, ⟨by (with_reducible repeat (first | refine blk_drewN ?_ _ | refine blk_drew ?_ | refine blk_alloc ?_ _)); exact BK301.out⟩, ⟨by (with_reducible repeat (first | refine blk_drewN ?_ _ | refine blk_drew ?_ | refine blk_alloc ?_ _)); exact BK325.out⟩, ⟨qB⟩⟩
            ·replace c85 := Bool.eq_false_iff.mpr c85
             subst c85
             have H1 : (laws_FnExactGatesFor.j2 kj40 t310 true t293 t311 t312) = some r := by rw [if_neg (show ¬ (false = true) by decide)] at H; exact H
             clear H
             have H := H1
             clear H1
             have H' := Aside0.mk H
             clear H
             have hnb92 := NB325_289.out
             have hnc92 := NB289_325.out
             have hnb93 := NB325_301.out
             have hnc93 := NB301_325.out
             have hcz94_0 : w78.cell? ⟨gb325, 0, none⟩ = some (.int .i64 0) := (blk_cell BK325.out 0).trans rfl
             have hcz94_1 : w78.cell? ⟨gb325, 1, none⟩ = some (.slice none 0 0) := (blk_cell BK325.out 1).trans rfl
             have hcz94_2 : w78.cell? ⟨gb325, 2, none⟩ = some (.slice none 0 0) := (blk_cell BK325.out 2).trans rfl
             have hfz94_0 := blk_frozen BK325.out 0
             have hfz94_1 := blk_frozen BK325.out 1
             have hfz94_2 := blk_frozen BK325.out 2
             have hnb95 := NB289_301.out
             have hnc95 := NB301_289.out
             have hcz96_0 : w78.cell? ⟨gb289, 0, none⟩ = some (.int .i64 t281) := (blk_cell BK289.out 0).trans rfl
             have hcz96_1 : w78.cell? ⟨gb289, 1, none⟩ = some (.slice Ao16 t282.length co16) := (blk_cell BK289.out 1).trans rfl
             have hcz96_2 : w78.cell? ⟨gb289, 2, none⟩ = some (.slice Ao17 t285.length co17) := (blk_cell BK289.out 2).trans rfl
             have hfz96_0 := blk_frozen BK289.out 0
             have hfz96_1 := blk_frozen BK289.out 1
             have hfz96_2 := blk_frozen BK289.out 2
             go_wp2_with (first | ((with_reducible refine gate_callee (f := 12) rfl ?_); refine goesL_ (some 91) rfl rfl Try.func12 (by kernel_rfl) rfl #[.agg #[.int .i64 t317, .slice Ao82 t318.length co82, .slice Ao83 t321.length co83], .agg #[.int .i64 t281, .slice Ao16 t282.length co16, .slice Ao17 t285.length co17]] rfl qG ?_; (with_reducible refine (laws_eqCircuit.calls kj40 t317 _ _ t318 _ _ t321 t281 _ _ t282 _ _ t285 false _ ?side1 ?side2 ?side3 ?side4 ?side5 ?side6 ?side7 ?side8 A84.out).mono ?_); (case side1 => refine (Kd.R_reads' (e := 93) (base := w.heap.size) (ok := fun k_ => ((True ∧ some k_ ≠ (.slice Ao16 t282.length co16 : Value).ownBlock) ∧ some k_ ≠ (.slice Ao24 t294.length co24 : Value).ownBlock)) (n := t318.length) (c := co82) ?_).2.2; exact (by (with_reducible repeat (first | apply Kd.R_alloc | apply Kd.R_drewN | apply Kd.R_drew)); exact (Kd.R_mono (Kd.R_far (p := ⟨gb325, 2, none⟩) (Kd.R_far (p := ⟨gb325, 1, none⟩) (Kd.R_far (p := ⟨gb325, 0, none⟩) (Kd.R_types HO320.out BK325.out (by decide)) (fun _ hk => hk.2) (.int .i64 t317)) (fun _ hk => hk.2) (.slice Ao82 t318.length co82)) (fun _ hk => hk.2) (.slice Ao83 t321.length co83)) (fun _ h_ => h_.1)))); (case side2 => exact (Kd.R_reads' HO320.out).2.1); (case side3 => refine (Kd.R_reads' (e := 3) (base := w.heap.size) (ok := fun k_ => ((True ∧ some k_ ≠ (.slice Ao17 t285.length co17 : Value).ownBlock) ∧ some k_ ≠ (.slice Ao25 t297.length co25 : Value).ownBlock)) (n := t321.length) (c := co83) ?_).2.2; exact (by (with_reducible repeat (first | apply Kd.R_alloc | apply Kd.R_drewN | apply Kd.R_drew)); exact (Kd.R_mono (Kd.R_far (p := ⟨gb325, 2, none⟩) (Kd.R_far (p := ⟨gb325, 1, none⟩) (Kd.R_far (p := ⟨gb325, 0, none⟩) (Kd.R_types HO323.out BK325.out (by decide)) (fun _ hk => hk.2) (.int .i64 t317)) (fun _ hk => hk.2) (.slice Ao82 t318.length co82)) (fun _ hk => hk.2) (.slice Ao83 t321.length co83)) (fun _ h_ => h_.1)))); (case side4 => exact (Kd.R_reads' HO323.out).2.1); (case side5 => refine (Kd.R_reads' (e := 93) (base := w.heap.size) (ok := fun k_ => (some k_ ≠ (.slice Ao24 t294.length co24 : Value).ownBlock ∧ some k_ ≠ (.slice Ao82 t318.length co82 : Value).ownBlock)) (n := t282.length) (c := co16) ?_).2.2; exact (by (with_reducible repeat (first | apply Kd.R_alloc | apply Kd.R_drewN | apply Kd.R_drew)); exact (Kd.R_mono (Kd.R_far (p := ⟨gb325, 2, none⟩) (Kd.R_far (p := ⟨gb325, 1, none⟩) (Kd.R_far (p := ⟨gb325, 0, none⟩) (Kd.R_types HO_290001.out BK325.out (by decide)) (fun _ hk => hk.2) (.int .i64 t317)) (fun _ hk => hk.2) (.slice Ao82 t318.length co82)) (fun _ hk => hk.2) (.slice Ao83 t321.length co83)) (fun _ h_ => h_.1)))); (case side6 => exact (Kd.R_reads' HO_290001.out).2.1); (case side7 => refine (Kd.R_reads' (e := 3) (base := w.heap.size) (ok := fun k_ => (some k_ ≠ (.slice Ao25 t297.length co25 : Value).ownBlock ∧ some k_ ≠ (.slice Ao83 t321.length co83 : Value).ownBlock)) (n := t285.length) (c := co17) ?_).2.2; exact (by (with_reducible repeat (first | apply Kd.R_alloc | apply Kd.R_drewN | apply Kd.R_drew)); exact (Kd.R_mono (Kd.R_far (p := ⟨gb325, 2, none⟩) (Kd.R_far (p := ⟨gb325, 1, none⟩) (Kd.R_far (p := ⟨gb325, 0, none⟩) (Kd.R_types HO_290002.out BK325.out (by decide)) (fun _ hk => hk.2) (.int .i64 t317)) (fun _ hk => hk.2) (.slice Ao82 t318.length co82)) (fun _ hk => hk.2) (.slice Ao83 t321.length co83)) (fun _ h_ => h_.1)))); (case side8 => exact (Kd.R_reads' HO_290002.out).2.1); rintro e w97 ⟨rfl, hb⟩; refine ⟨_, rfl, ?_⟩; have n0_ := Aside0.mk (Kd.R_below (by (with_reducible repeat (first | apply Kd.R_alloc | apply Kd.R_drewN | apply Kd.R_drew)); exact (Kd.R_mono (Kd.R_far (p := ⟨gb325, 2, none⟩) (Kd.R_far (p := ⟨gb325, 1, none⟩) (Kd.R_far (p := ⟨gb325, 0, none⟩) (Kd.R_types HO_290001.out BK325.out (by decide)) (fun _ hk => hk.2) (.int .i64 t317)) (fun _ hk => hk.2) (.slice Ao82 t318.length co82)) (fun _ hk => hk.2) (.slice Ao83 t321.length co83)) (fun _ h_ => h_.1))) hb); have n1_ := Aside0.mk (Kd.R_below (by (with_reducible repeat (first | apply Kd.R_alloc | apply Kd.R_drewN | apply Kd.R_drew)); exact (Kd.R_mono (Kd.R_far (p := ⟨gb325, 2, none⟩) (Kd.R_far (p := ⟨gb325, 1, none⟩) (Kd.R_far (p := ⟨gb325, 0, none⟩) (Kd.R_types HO_290002.out BK325.out (by decide)) (fun _ hk => hk.2) (.int .i64 t317)) (fun _ hk => hk.2) (.slice Ao82 t318.length co82)) (fun _ hk => hk.2) (.slice Ao83 t321.length co83)) (fun _ h_ => h_.1))) hb); have n2_ := Aside0.mk (Kd.R_below (by (with_reducible repeat (first | apply Kd.R_alloc | apply Kd.R_drewN | apply Kd.R_drew)); exact (Kd.R_mono (Kd.R_far (p := ⟨gb325, 2, none⟩) (Kd.R_far (p := ⟨gb325, 1, none⟩) (Kd.R_far (p := ⟨gb325, 0, none⟩) (Kd.R_types HO_302001.out BK325.out (by decide)) (fun _ hk => hk.2) (.int .i64 t317)) (fun _ hk => hk.2) (.slice Ao82 t318.length co82)) (fun _ hk => hk.2) (.slice Ao83 t321.length co83)) (fun _ h_ => h_.1))) hb); have n3_ := Aside0.mk (Kd.R_below (by (with_reducible repeat (first | apply Kd.R_alloc | apply Kd.R_drewN | apply Kd.R_drew)); exact (Kd.R_mono (Kd.R_far (p := ⟨gb325, 2, none⟩) (Kd.R_far (p := ⟨gb325, 1, none⟩) (Kd.R_far (p := ⟨gb325, 0, none⟩) (Kd.R_types HO_302002.out BK325.out (by decide)) (fun _ hk => hk.2) (.int .i64 t317)) (fun _ hk => hk.2) (.slice Ao82 t318.length co82)) (fun _ hk => hk.2) (.slice Ao83 t321.length co83)) (fun _ h_ => h_.1))) hb); have n4_ := Aside0.mk (Kd.R_below (by (with_reducible repeat (first | apply Kd.R_alloc | apply Kd.R_drewN | apply Kd.R_drew)); exact (Kd.R_mono (Kd.R_far (p := ⟨gb325, 2, none⟩) (Kd.R_far (p := ⟨gb325, 1, none⟩) (Kd.R_far (p := ⟨gb325, 0, none⟩) (Kd.R_types HO316.out BK325.out (by decide)) (fun _ hk => hk.2) (.int .i64 t317)) (fun _ hk => hk.2) (.slice Ao82 t318.length co82)) (fun _ hk => hk.2) (.slice Ao83 t321.length co83)) (fun _ h_ => h_.1))) hb); have n5_ := Aside0.mk (Kd.R_below (by (with_reducible repeat (first | apply Kd.R_alloc | apply Kd.R_drewN | apply Kd.R_drew)); exact (Kd.R_mono (Kd.R_far (p := ⟨gb325, 2, none⟩) (Kd.R_far (p := ⟨gb325, 1, none⟩) (Kd.R_far (p := ⟨gb325, 0, none⟩) (Kd.R_types HO320.out BK325.out (by decide)) (fun _ hk => hk.2) (.int .i64 t317)) (fun _ hk => hk.2) (.slice Ao82 t318.length co82)) (fun _ hk => hk.2) (.slice Ao83 t321.length co83)) (fun _ h_ => h_.1))) hb); have n6_ := Aside0.mk (Kd.R_below (by (with_reducible repeat (first | apply Kd.R_alloc | apply Kd.R_drewN | apply Kd.R_drew)); exact (Kd.R_mono (Kd.R_far (p := ⟨gb325, 2, none⟩) (Kd.R_far (p := ⟨gb325, 1, none⟩) (Kd.R_far (p := ⟨gb325, 0, none⟩) (Kd.R_types HO323.out BK325.out (by decide)) (fun _ hk => hk.2) (.int .i64 t317)) (fun _ hk => hk.2) (.slice Ao82 t318.length co82)) (fun _ hk => hk.2) (.slice Ao83 t321.length co83)) (fun _ h_ => h_.1))) hb); have n7_ := Aside0.mk (blk_below (g := gb289) (o := .cells #[.int .i64 t281, .slice Ao16 t282.length co16, .slice Ao17 t285.length co17] 27 (0, 0)) (qF BK289.out) hb); have n8_ := Aside0.mk (blk_below (g := gb301) (o := .cells #[.int .i64 t293, .slice Ao24 t294.length co24, .slice Ao25 t297.length co25] 27 (0, 0)) (qF BK301.out) hb); have n9_ := Aside0.mk (blk_below (g := gb325) (o := .cells #[.int .i64 t317, .slice Ao82 t318.length co82, .slice Ao83 t321.length co83] 27 (0, 0)) (by (with_reducible repeat (first | refine blk_drewN ?_ _ | refine blk_drew ?_ | refine blk_alloc ?_ _)); refine blk_put (cs := #[.int .i64 t317, .slice Ao82 t318.length co82, .slice none 0 0]) ?_ 2 _ rfl; (with_reducible repeat (first | refine blk_drewN ?_ _ | refine blk_drew ?_ | refine blk_alloc ?_ _)); refine blk_put (cs := #[.int .i64 t317, .slice none 0 0, .slice none 0 0]) ?_ 1 _ rfl; (with_reducible repeat (first | refine blk_drewN ?_ _ | refine blk_drew ?_ | refine blk_alloc ?_ _)); refine blk_put (cs := #[.int .i64 0, .slice none 0 0, .slice none 0 0]) ?_ 0 _ rfl; (with_reducible repeat (first | refine blk_drewN ?_ _ | refine blk_drew ?_ | refine blk_alloc ?_ _)); exact BK325.out) hb); have n10_ := Aside0.mk (below_step (qB) hb); clear HO_290001; clear HO_290002; clear HO_302001; clear HO_302002; clear HO316; clear HO320; clear HO323; clear BK289; clear BK301; clear BK325; clear HB; have HO_290001 := n0_; have HO_290002 := n1_; have HO_302001 := n2_; have HO_302002 := n3_; have HO316 := n4_; have HO320 := n5_; have HO323 := n6_; have BK289 := n7_; have BK301 := n8_; have BK325 := n9_; have HB := n10_; clear n0_ n1_ n2_ n3_ n4_ n5_ n6_ n7_ n8_ n9_ n10_; (try clear hb); (try clear hb2); (try clear hk); (try clear hi)))
             go_meet
             case rel => exact ⟨_, (true), qS, H', ⟨by have := HJ9.out; have := HJ40.out; first | omega | exact Nat.le_refl _⟩, ⟨qR HO_290001.out⟩, ⟨qR HO_290002.out⟩, ⟨qR HO_302001.out⟩, ⟨qR HO_302002.out⟩, ⟨by (with_reducible repeat (first | apply Kd.R_alloc | apply Kd.R_drewN | apply Kd.R_drew)); exact Kd.R_mono HO320.out (fun _ hk => ⟨hk.1.2, hk.2⟩)⟩, ⟨by (with_reducible repeat (first | apply Kd.R_alloc | apply Kd.R_drewN | apply Kd.R_drew)); exact Kd.R_mono HO323.out (fun _ hk => ⟨hk.1.2, hk.2⟩)⟩, ⟨by (with_reducible repeat (first | refine blk_drewN ?_ _ | refine blk_drew ?_ | refine blk_alloc ?_ _)); exact BK289.out⟩, ⟨by (with_reducible repeat (first | refine blk_drewN ?_ _ | refine blk_drew ?_ | refine blk_alloc ?_ _)); exact BK301.out⟩, ⟨by (with_reducible repeat (first | refine blk_drewN ?_ _ | refine blk_drew ?_ | refine blk_alloc ?_ _)); exact BK325.out⟩, ⟨qB⟩⟩
           case rest =>
            clear HC69
            try clear c1
            try clear c2
            try clear p2
            try clear c3
            try clear c4
            try clear c5
            try clear c5b0
            try clear c6
            try clear c7
            try clear c8
            try clear c9
            try clear c10
            try clear c11
            try clear c12
            try clear c13
            try clear c14
            try clear c15
            try clear c16
            try clear c22
            try clear c27
            try clear c28
            try clear c32
            try clear c36
            try clear c39
            try clear c46
            try clear c46b0
            try clear c48
            try clear c49
            try clear c53
            try clear c57
            try clear c60
            try clear c60b0
            try clear c61
            try clear c66
            try clear c66b0
            try clear c66b1
            try clear c70
            try clear c79
            try clear c80
            try clear c85
            try clear c86
            try clear c87
            try clear c89
            try clear c92
            try clear c93
            try clear c95
            try clear hcz15_0
            try clear hcz15_1
            try clear hcz15_2
            try clear hcz23_0
            try clear hcz23_1
            try clear hcz23_2
            try clear hcz29_0
            try clear hcz29_1
            try clear hcz29_2
            try clear hcz30_0
            try clear hcz30_1
            try clear hcz30_2
            try clear hcz33_0
            try clear hcz33_1
            try clear hcz33_2
            try clear hcz34_0
            try clear hcz34_1
            try clear hcz34_2
            try clear hcz50_0
            try clear hcz50_1
            try clear hcz50_2
            try clear hcz51_0
            try clear hcz51_1
            try clear hcz51_2
            try clear hcz54_0
            try clear hcz54_1
            try clear hcz54_2
            try clear hcz55_0
            try clear hcz55_1
            try clear hcz55_2
            try clear hcz62_0
            try clear hcz62_1
            try clear hcz62_2
            try clear hcz64_0
            try clear hcz64_1
            try clear hcz64_2
            try clear hcz71_0
            try clear hcz71_1
            try clear hcz71_2
            try clear hcz73_0
            try clear hcz73_1
            try clear hcz73_2
            try clear hcz81_0
            try clear hcz81_1
            try clear hcz81_2
            try clear hcz88_0
            try clear hcz88_1
            try clear hcz88_2
            try clear hcz90_0
            try clear hcz90_1
            try clear hcz90_2
            try clear hcz94_0
            try clear hcz94_1
            try clear hcz94_2
            try clear hcz96_0
            try clear hcz96_1
            try clear hcz96_2
            try clear hfz15_0
            try clear hfz15_1
            try clear hfz15_2
            try clear hfz23_0
            try clear hfz23_1
            try clear hfz23_2
            try clear hfz29_0
            try clear hfz29_1
            try clear hfz29_2
            try clear hfz30_0
            try clear hfz30_1
            try clear hfz30_2
            try clear hfz33_0
            try clear hfz33_1
            try clear hfz33_2
            try clear hfz34_0
            try clear hfz34_1
            try clear hfz34_2
            try clear hfz50_0
            try clear hfz50_1
            try clear hfz50_2
            try clear hfz51_0
            try clear hfz51_1
            try clear hfz51_2
            try clear hfz54_0
            try clear hfz54_1
            try clear hfz54_2
            try clear hfz55_0
            try clear hfz55_1
            try clear hfz55_2
            try clear hfz62_0
            try clear hfz62_1
            try clear hfz62_2
            try clear hfz64_0
            try clear hfz64_1
            try clear hfz64_2
            try clear hfz71_0
            try clear hfz71_1
            try clear hfz71_2
            try clear hfz73_0
            try clear hfz73_1
            try clear hfz73_2
            try clear hfz81_0
            try clear hfz81_1
            try clear hfz81_2
            try clear hfz88_0
            try clear hfz88_1
            try clear hfz88_2
            try clear hfz90_0
            try clear hfz90_1
            try clear hfz90_2
            try clear hfz94_0
            try clear hfz94_1
            try clear hfz94_2
            try clear hfz96_0
            try clear hfz96_1
            try clear hfz96_2
            try clear p2
            obtain ⟨kq, x97_68, rfl, HA, HJ68, HO_290001, HO_290002, HO_302001, HO_302002, HO_326001, HO_326002, BK289, BK301, BK325, HB⟩ := hcut
            have hl302001_68 := (Kd.R_reads' HO_302001.out).1
            rw [hl302001_68] at HO_302001
            (try simp only [hl302001_68])
            (try simp only [hl302001_68] at BK289)
            (try simp only [hl302001_68] at BK301)
            (try simp only [hl302001_68] at BK325)
            (try simp only [hl302001_68] at HO_290001)
            (try simp only [hl302001_68] at HO_290002)
            (try simp only [hl302001_68] at HO_302002)
            (try simp only [hl302001_68] at HO_326001)
            (try simp only [hl302001_68] at HO_326002)
            have hl302002_68 := (Kd.R_reads' HO_302002.out).1
            rw [hl302002_68] at HO_302002
            (try simp only [hl302002_68])
            (try simp only [hl302002_68] at BK289)
            (try simp only [hl302002_68] at BK301)
            (try simp only [hl302002_68] at BK325)
            (try simp only [hl302002_68] at HO_290001)
            (try simp only [hl302002_68] at HO_290002)
            (try simp only [hl302002_68] at HO_302001)
            (try simp only [hl302002_68] at HO_326001)
            (try simp only [hl302002_68] at HO_326002)
            cases kq with
            | zero => exact absurd HA.out (by simp [laws_FnExactGatesFor.j2])
            | succ kj68 =>
             have H := HA.out
             clear HA
             simp only [laws_FnExactGatesFor.j2] at H
             by_cases c98 : x97_68 = true
             ·subst c98
              have H1 : (some false) = some r := by rw [if_pos rfl] at H; exact H
              clear H
              have H := H1
              clear H1
              obtain rfl := Option.some.inj H
              go_wp2
              go_ret
              exact ⟨qE, qB⟩
             ·replace c98 := Bool.eq_false_iff.mpr c98
              subst c98
              have H1 : ((laws_heldCircuit.f kj68 t293 t311 t312 1).bind fun t327 => (if t327 < 0 then (some false) else (if t327 = t310 then (some true) else (some false)))) = some r := by rw [if_neg (show ¬ (false = true) by decide)] at H; exact H
              clear H
              have H := H1
              clear H1
              replace H := Option.bind_eq_some_iff.mp H
              obtain ⟨t327, A990, H⟩ := H
              replace H : (if t327 < 0 then (some false) else (if t327 = t310 then (some true) else (some false))) = some r := H
              have A99 := Aside0.mk A990
              clear A990
              by_cases c100 : t327 < 0
              ·rw [if_pos c100] at H
               have c100b0 : decide (t327 < 0) = true := decide_eq_true c100
               clear c100
               obtain rfl := Option.some.inj H
               have hnb101 := NB301_289.out
               have hnc101 := NB289_301.out
               have hnb102 := NB301_325.out
               have hnc102 := NB325_301.out
               have hcz103_0 : wc.cell? ⟨gb301, 0, none⟩ = some (.int .i64 t293) := (blk_cell BK301.out 0).trans rfl
               have hcz103_1 : wc.cell? ⟨gb301, 1, none⟩ = some (.slice Ao24 t311.length co24) := (blk_cell BK301.out 1).trans rfl
               have hcz103_2 : wc.cell? ⟨gb301, 2, none⟩ = some (.slice Ao25 t312.length co25) := (blk_cell BK301.out 2).trans rfl
               have hfz103_0 := blk_frozen BK301.out 0
               have hfz103_1 := blk_frozen BK301.out 1
               have hfz103_2 := blk_frozen BK301.out 2
               go_wp2_with (first | ((with_reducible refine gate_callee (f := 16) rfl ?_); refine goesL_ (some 100) rfl rfl Try.func16 (by kernel_rfl) rfl #[.agg #[.int .i64 t293, .slice Ao24 t311.length co24, .slice Ao25 t312.length co25], .int .i64 1] rfl qG ?_; (with_reducible refine (laws_heldCircuit.calls kj68 t293 _ _ t311 _ _ t312 1 t327 _ ?side1 ?side2 ?side3 ?side4 A99.out).mono ?_); (case side1 => repeat (first | exact (Kd.R_reads' HO_302001.out).2.2 | (with_reducible refine Kd.C_alloc ?_ _) | (with_reducible refine Kd.C_drewN ?_ _) | (with_reducible refine Kd.C_drew ?_))); (case side2 => exact (Kd.R_reads' HO_302001.out).2.1); (case side3 => repeat (first | exact (Kd.R_reads' HO_302002.out).2.2 | (with_reducible refine Kd.C_alloc ?_ _) | (with_reducible refine Kd.C_drewN ?_ _) | (with_reducible refine Kd.C_drew ?_))); (case side4 => exact (Kd.R_reads' HO_302002.out).2.1); rintro e w104 ⟨rfl, hb⟩; refine ⟨_, rfl, ?_⟩; have n0_ := Aside0.mk (Kd.R_below (qR HO_290001.out) hb); have n1_ := Aside0.mk (Kd.R_below (qR HO_290002.out) hb); have n2_ := Aside0.mk (Kd.R_below (qR HO_302001.out) hb); have n3_ := Aside0.mk (Kd.R_below (qR HO_302002.out) hb); have n4_ := Aside0.mk (Kd.R_below (qR HO_326001.out) hb); have n5_ := Aside0.mk (Kd.R_below (qR HO_326002.out) hb); have n6_ := Aside0.mk (blk_below (g := gb289) (o := .cells #[.int .i64 t281, .slice Ao16 t282.length co16, .slice Ao17 t285.length co17] 27 (0, 0)) (qK BK289.out) hb); have n7_ := Aside0.mk (blk_below (g := gb301) (o := .cells #[.int .i64 t293, .slice Ao24 t311.length co24, .slice Ao25 t312.length co25] 27 (0, 0)) (qK BK301.out) hb); have n8_ := Aside0.mk (blk_below (g := gb325) (o := .cells #[.int .i64 t317, .slice Ao82 t318.length co82, .slice Ao83 t321.length co83] 27 (0, 0)) (qK BK325.out) hb); have n9_ := Aside0.mk (below_step (qB) hb); clear HO_290001; clear HO_290002; clear HO_302001; clear HO_302002; clear HO_326001; clear HO_326002; clear BK289; clear BK301; clear BK325; clear HB; have HO_290001 := n0_; have HO_290002 := n1_; have HO_302001 := n2_; have HO_302002 := n3_; have HO_326001 := n4_; have HO_326002 := n5_; have BK289 := n6_; have BK301 := n7_; have BK325 := n8_; have HB := n9_; clear n0_ n1_ n2_ n3_ n4_ n5_ n6_ n7_ n8_ n9_; (try clear hb); (try clear hb2); (try clear hk); (try clear hi)))
               go_ret
               exact ⟨qE, qB⟩
              ·rw [if_neg c100] at H
               have c100b0 : decide (t327 < 0) = false := decide_eq_false c100
               clear c100
               by_cases c105 : t327 = t310
               ·rw [if_pos c105] at H
                have c105b0 : (t327 == t310) = true := beq_iff_eq.mpr c105
                have c105b1 : (t327 != t310) = false := bne_eq_false_iff_eq.mpr c105
                clear c105
                obtain rfl := Option.some.inj H
                have hnb106 := NB301_289.out
                have hnc106 := NB289_301.out
                have hnb107 := NB301_325.out
                have hnc107 := NB325_301.out
                have hcz108_0 : wc.cell? ⟨gb301, 0, none⟩ = some (.int .i64 t293) := (blk_cell BK301.out 0).trans rfl
                have hcz108_1 : wc.cell? ⟨gb301, 1, none⟩ = some (.slice Ao24 t311.length co24) := (blk_cell BK301.out 1).trans rfl
                have hcz108_2 : wc.cell? ⟨gb301, 2, none⟩ = some (.slice Ao25 t312.length co25) := (blk_cell BK301.out 2).trans rfl
                have hfz108_0 := blk_frozen BK301.out 0
                have hfz108_1 := blk_frozen BK301.out 1
                have hfz108_2 := blk_frozen BK301.out 2
                go_wp2_with (first | ((with_reducible refine gate_callee (f := 16) rfl ?_); refine goesL_ (some 100) rfl rfl Try.func16 (by kernel_rfl) rfl #[.agg #[.int .i64 t293, .slice Ao24 t311.length co24, .slice Ao25 t312.length co25], .int .i64 1] rfl qG ?_; (with_reducible refine (laws_heldCircuit.calls kj68 t293 _ _ t311 _ _ t312 1 t327 _ ?side1 ?side2 ?side3 ?side4 A99.out).mono ?_); (case side1 => repeat (first | exact (Kd.R_reads' HO_302001.out).2.2 | (with_reducible refine Kd.C_alloc ?_ _) | (with_reducible refine Kd.C_drewN ?_ _) | (with_reducible refine Kd.C_drew ?_))); (case side2 => exact (Kd.R_reads' HO_302001.out).2.1); (case side3 => repeat (first | exact (Kd.R_reads' HO_302002.out).2.2 | (with_reducible refine Kd.C_alloc ?_ _) | (with_reducible refine Kd.C_drewN ?_ _) | (with_reducible refine Kd.C_drew ?_))); (case side4 => exact (Kd.R_reads' HO_302002.out).2.1); rintro e w109 ⟨rfl, hb⟩; refine ⟨_, rfl, ?_⟩; have n0_ := Aside0.mk (Kd.R_below (qR HO_290001.out) hb); have n1_ := Aside0.mk (Kd.R_below (qR HO_290002.out) hb); have n2_ := Aside0.mk (Kd.R_below (qR HO_302001.out) hb); have n3_ := Aside0.mk (Kd.R_below (qR HO_302002.out) hb); have n4_ := Aside0.mk (Kd.R_below (qR HO_326001.out) hb); have n5_ := Aside0.mk (Kd.R_below (qR HO_326002.out) hb); have n6_ := Aside0.mk (blk_below (g := gb289) (o := .cells #[.int .i64 t281, .slice Ao16 t282.length co16, .slice Ao17 t285.length co17] 27 (0, 0)) (qK BK289.out) hb); have n7_ := Aside0.mk (blk_below (g := gb301) (o := .cells #[.int .i64 t293, .slice Ao24 t311.length co24, .slice Ao25 t312.length co25] 27 (0, 0)) (qK BK301.out) hb); have n8_ := Aside0.mk (blk_below (g := gb325) (o := .cells #[.int .i64 t317, .slice Ao82 t318.length co82, .slice Ao83 t321.length co83] 27 (0, 0)) (qK BK325.out) hb); have n9_ := Aside0.mk (below_step (qB) hb); clear HO_290001; clear HO_290002; clear HO_302001; clear HO_302002; clear HO_326001; clear HO_326002; clear BK289; clear BK301; clear BK325; clear HB; have HO_290001 := n0_; have HO_290002 := n1_; have HO_302001 := n2_; have HO_302002 := n3_; have HO_326001 := n4_; have HO_326002 := n5_; have BK289 := n6_; have BK301 := n7_; have BK325 := n8_; have HB := n9_; clear n0_ n1_ n2_ n3_ n4_ n5_ n6_ n7_ n8_ n9_; (try clear hb); (try clear hb2); (try clear hk); (try clear hi)))
                go_ret
                exact ⟨qE, qB⟩
               ·rw [if_neg c105] at H
                have c105b0 : (t327 == t310) = false := beq_eq_false_iff_ne.mpr c105
                have c105b1 : (t327 != t310) = true := bne_iff_ne.mpr c105
                obtain rfl := Option.some.inj H
                have hnb110 := NB301_289.out
                have hnc110 := NB289_301.out
                have hnb111 := NB301_325.out
                have hnc111 := NB325_301.out
                have hcz112_0 : wc.cell? ⟨gb301, 0, none⟩ = some (.int .i64 t293) := (blk_cell BK301.out 0).trans rfl
                have hcz112_1 : wc.cell? ⟨gb301, 1, none⟩ = some (.slice Ao24 t311.length co24) := (blk_cell BK301.out 1).trans rfl
                have hcz112_2 : wc.cell? ⟨gb301, 2, none⟩ = some (.slice Ao25 t312.length co25) := (blk_cell BK301.out 2).trans rfl
                have hfz112_0 := blk_frozen BK301.out 0
                have hfz112_1 := blk_frozen BK301.out 1
                have hfz112_2 := blk_frozen BK301.out 2
                go_wp2_with (first | ((with_reducible refine gate_callee (f := 16) rfl ?_); refine goesL_ (some 100) rfl rfl Try.func16 (by kernel_rfl) rfl #[.agg #[.int .i64 t293, .slice Ao24 t311.length co24, .slice Ao25 t312.length co25], .int .i64 1] rfl qG ?_; (with_reducible refine (laws_heldCircuit.calls kj68 t293 _ _ t311 _ _ t312 1 t327 _ ?side1 ?side2 ?side3 ?side4 A99.out).mono ?_); (case side1 => repeat (first | exact (Kd.R_reads' HO_302001.out).2.2 | (with_reducible refine Kd.C_alloc ?_ _) | (with_reducible refine Kd.C_drewN ?_ _) | (with_reducible refine Kd.C_drew ?_))); (case side2 => exact (Kd.R_reads' HO_302001.out).2.1); (case side3 => repeat (first | exact (Kd.R_reads' HO_302002.out).2.2 | (with_reducible refine Kd.C_alloc ?_ _) | (with_reducible refine Kd.C_drewN ?_ _) | (with_reducible refine Kd.C_drew ?_))); (case side4 => exact (Kd.R_reads' HO_302002.out).2.1); rintro e w113 ⟨rfl, hb⟩; refine ⟨_, rfl, ?_⟩; have n0_ := Aside0.mk (Kd.R_below (qR HO_290001.out) hb); have n1_ := Aside0.mk (Kd.R_below (qR HO_290002.out) hb); have n2_ := Aside0.mk (Kd.R_below (qR HO_302001.out) hb); have n3_ := Aside0.mk (Kd.R_below (qR HO_302002.out) hb); have n4_ := Aside0.mk (Kd.R_below (qR HO_326001.out) hb); have n5_ := Aside0.mk (Kd.R_below (qR HO_326002.out) hb); have n6_ := Aside0.mk (blk_below (g := gb289) (o := .cells #[.int .i64 t281, .slice Ao16 t282.length co16, .slice Ao17 t285.length co17] 27 (0, 0)) (qK BK289.out) hb); have n7_ := Aside0.mk (blk_below (g := gb301) (o := .cells #[.int .i64 t293, .slice Ao24 t311.length co24, .slice Ao25 t312.length co25] 27 (0, 0)) (qK BK301.out) hb); have n8_ := Aside0.mk (blk_below (g := gb325) (o := .cells #[.int .i64 t317, .slice Ao82 t318.length co82, .slice Ao83 t321.length co83] 27 (0, 0)) (qK BK325.out) hb); have n9_ := Aside0.mk (below_step (qB) hb); clear HO_290001; clear HO_290002; clear HO_302001; clear HO_302002; clear HO_326001; clear HO_326002; clear BK289; clear BK301; clear BK325; clear HB; have HO_290001 := n0_; have HO_290002 := n1_; have HO_302001 := n2_; have HO_302002 := n3_; have HO_326001 := n4_; have HO_326002 := n5_; have BK289 := n6_; have BK301 := n7_; have BK325 := n8_; have HB := n9_; clear n0_ n1_ n2_ n3_ n4_ n5_ n6_ n7_ n8_ n9_; (try clear hb); (try clear hb2); (try clear hk); (try clear hi)))
                go_ret
                exact ⟨qE, qB⟩
          ·rw [if_neg c66] at H
           have c66b0 : (t313 == t310) = false := beq_eq_false_iff_ne.mpr c66
           have c66b1 : (t313 != t310) = true := bne_iff_ne.mpr c66
           obtain rfl := Option.some.inj H
           have hnb114 := NB301_289.out
           have hnc114 := NB289_301.out
           have hcz115_0 : wc.cell? ⟨gb301, 0, none⟩ = some (.int .i64 t293) := (blk_cell BK301.out 0).trans rfl
           have hcz115_1 : wc.cell? ⟨gb301, 1, none⟩ = some (.slice Ao24 t294.length co24) := (blk_cell BK301.out 1).trans rfl
           have hcz115_2 : wc.cell? ⟨gb301, 2, none⟩ = some (.slice Ao25 t297.length co25) := (blk_cell BK301.out 2).trans rfl
           have hfz115_0 := blk_frozen BK301.out 0
           have hfz115_1 := blk_frozen BK301.out 1
           have hfz115_2 := blk_frozen BK301.out 2
           go_wp2_with (first | ((with_reducible refine gate_callee (f := 15) rfl ?_); refine goesL_ (some 72) rfl rfl Try.func15 (by kernel_rfl) rfl #[.agg #[.int .i64 t293, .slice Ao24 t294.length co24, .slice Ao25 t297.length co25], .int .i64 1] rfl qG ?_; (with_reducible refine (laws_markCircuit.calls kj40 t293 (fun k_ => some k_ = (.slice Ao24 t294.length co24 : Value).ownBlock) (.slice Ao24 t294.length co24) t294 (fun k_ => some k_ = (.slice Ao25 t297.length co25 : Value).ownBlock) (.slice Ao25 t297.length co25) t297 1 t310 t311 t312 w _ ?side1 ?side2 ?side3 A58.out).mono ?_); (case side1 => repeat (first | (with_reducible first | exact HB.out | apply below_alloc | apply pw_below_drewN | apply below_drew1 | refine below_set ?_ GE289.out | refine below_set ?_ GE301.out) | exact HB.out)); (case side2 => exact Kd.R_tight rfl HO_302001.out); (case side3 => exact Kd.R_tight rfl HO_302002.out); rintro e w116 ⟨rfl, hy0, hy1, hb, hkp⟩; refine ⟨_, rfl, ?_⟩; have n0_ := Aside0.mk (Kd.R_mono (ok' := fun k_ => some k_ ≠ (.slice Ao24 t294.length co24 : Value).ownBlock) (Kd.R_keptB ((Kd.R_apart' HO_290001.out (Kd.R_typed HO_302002.out) (by decide))) hkp (fun k_ hk_ hs_ => Or.elim hs_ (fun e_ => (hk_.1) e_) (fun e_ => (hk_.2) e_))) (fun k_ hk_ => hk_.1.1)); have n1_ := Aside0.mk (Kd.R_mono (ok' := fun k_ => some k_ ≠ (.slice Ao25 t297.length co25 : Value).ownBlock) (Kd.R_keptB ((Kd.R_apart' HO_290002.out (Kd.R_typed HO_302001.out) (by decide))) hkp (fun k_ hk_ hs_ => Or.elim hs_ (fun e_ => (hk_.2) e_) (fun e_ => (hk_.1) e_))) (fun k_ hk_ => hk_.1.1)); have n2_ := Aside0.mk (Kd.R_reok rfl hy0 (fun k_ e_ => HO_302001.out.1 k_ e_)); have n3_ := Aside0.mk (Kd.R_reok rfl hy1 (fun k_ e_ => HO_302002.out.1 k_ e_)); have n4_ := Aside0.mk (blk_kept (qK BK289.out) hkp (fun hs_ => Or.elim hs_ (fun e_ => (fun e_ => (Kd.R_ne HO_302001.out BK289.out (by decide)) e_) e_) (fun e_ => (fun e_ => (Kd.R_ne HO_302002.out BK289.out (by decide)) e_) e_))); have n5_ := Aside0.mk (blk_kept (qK BK301.out) hkp (fun hs_ => Or.elim hs_ (fun e_ => (fun e_ => (Kd.R_ne HO_302001.out BK301.out (by decide)) e_) e_) (fun e_ => (fun e_ => (Kd.R_ne HO_302002.out BK301.out (by decide)) e_) e_))); have n6_ := Aside0.mk (hb); clear HO_290001; clear HO_290002; clear HO_302001; clear HO_302002; clear BK289; clear BK301; clear HB; have HO_290001 := n0_; have HO_290002 := n1_; have HO_302001 := n2_; have HO_302002 := n3_; have BK289 := n4_; have BK301 := n5_; have HB := n6_; clear n0_ n1_ n2_ n3_ n4_ n5_ n6_; (try clear hb); (try clear hkp); (try clear hy0); (try clear hy1); have hcz117_0 : w116.cell? ⟨gb301, 0, none⟩ = some (.int .i64 t293) := (blk_cell BK301.out 0).trans rfl; have hcz117_1 : w116.cell? ⟨gb301, 1, none⟩ = some (.slice Ao24 t294.length co24) := (blk_cell BK301.out 1).trans rfl; have hcz117_2 : w116.cell? ⟨gb301, 2, none⟩ = some (.slice Ao25 t297.length co25) := (blk_cell BK301.out 2).trans rfl; have hfz117_0 := blk_frozen BK301.out 0; have hfz117_1 := blk_frozen BK301.out 1; have hfz117_2 := blk_frozen BK301.out 2) | ((with_reducible refine gate_callee (f := 16) rfl ?_); refine goesL_ (some 75) rfl rfl Try.func16 (by kernel_rfl) rfl #[.agg #[.int .i64 t293, .slice Ao24 t311.length co24, .slice Ao25 t312.length co25], .int .i64 1] rfl (by (try simp only [List.map_toArray, List.map_cons, List.map_nil]); first | done | (rw [show t311.length = t294.length from (Kd.R_reads' HO_302001.out).1.symm, show t312.length = t297.length from (Kd.R_reads' HO_302002.out).1.symm] <;> rfl) | rfl | (simp only [List.length_drop, List.length_take]; rfl)) ?_; (with_reducible refine (laws_heldCircuit.calls kj40 t293 _ _ t311 _ _ t312 1 t313 _ ?side1 ?side2 ?side3 ?side4 A59.out).mono ?_); (case side1 => repeat (first | exact (Kd.R_reads' HO_302001.out).2.2 | (with_reducible refine Kd.C_alloc ?_ _) | (with_reducible refine Kd.C_drewN ?_ _) | (with_reducible refine Kd.C_drew ?_))); (case side2 => rw [show t311.length = t294.length from (Kd.R_reads' HO_302001.out).1.symm]; exact (Kd.R_reads' HO_302001.out).2.1); (case side3 => repeat (first | exact (Kd.R_reads' HO_302002.out).2.2 | (with_reducible refine Kd.C_alloc ?_ _) | (with_reducible refine Kd.C_drewN ?_ _) | (with_reducible refine Kd.C_drew ?_))); (case side4 => rw [show t312.length = t297.length from (Kd.R_reads' HO_302002.out).1.symm]; exact (Kd.R_reads' HO_302002.out).2.1); rintro e w118 ⟨rfl, hb⟩; refine ⟨_, rfl, ?_⟩; have n0_ := Aside0.mk (Kd.R_below (qR HO_290001.out) hb); have n1_ := Aside0.mk (Kd.R_below (qR HO_290002.out) hb); have n2_ := Aside0.mk (Kd.R_below (qR HO_302001.out) hb); have n3_ := Aside0.mk (Kd.R_below (qR HO_302002.out) hb); have n4_ := Aside0.mk (blk_below (g := gb289) (o := .cells #[.int .i64 t281, .slice Ao16 t282.length co16, .slice Ao17 t285.length co17] 27 (0, 0)) (qK BK289.out) hb); have n5_ := Aside0.mk (blk_below (g := gb301) (o := .cells #[.int .i64 t293, .slice Ao24 t294.length co24, .slice Ao25 t297.length co25] 27 (0, 0)) (qK BK301.out) hb); have n6_ := Aside0.mk (below_step (qB) hb); clear HO_290001; clear HO_290002; clear HO_302001; clear HO_302002; clear BK289; clear BK301; clear HB; have HO_290001 := n0_; have HO_290002 := n1_; have HO_302001 := n2_; have HO_302002 := n3_; have BK289 := n4_; have BK301 := n5_; have HB := n6_; clear n0_ n1_ n2_ n3_ n4_ n5_ n6_; (try clear hb); (try clear hb2); (try clear hk); (try clear hi)))
           go_ret
           exact ⟨qE, qB⟩
     ·replace c39 := Bool.eq_false_iff.mpr c39
      subst c39
      have H1 : (some false) = some r := by rw [if_neg (show ¬ (false = true) by decide)] at H; exact H
      clear H
      have H := H1
      clear H1
      obtain rfl := Option.some.inj H
      go_wp2_with (first | ((with_reducible refine gate_callee (f := 10) rfl ?_); refine goesL_ (some 51) rfl rfl Try.func10 (by kernel_rfl) rfl #[.slice A2 l2.length c2] rfl qG ?_; (with_reducible refine (laws_toNodeS.calls kj9 _ _ l2 t303 _ ?side1 ?side2 A37.out).mono ?_); (case side1 => exact qC (Kd.C_below HR2.out HB.out)); (case side2 => exact HC2.out); rintro e w119 ⟨v304, rfl, ho0, hb⟩; refine ⟨_, rfl, ?_⟩; have n0_ := Aside0.mk (Kd.R_elder' (qR HO_10.out) (Kd.R_base ho0) hb); have n1_ := Aside0.mk (Kd.R_below (qR HO_290001.out) hb); have n2_ := Aside0.mk (Kd.R_below (qR HO_290002.out) hb); have n3_ := Aside0.mk (Kd.R_below (qR HO_302001.out) hb); have n4_ := Aside0.mk (Kd.R_below (qR HO_302002.out) hb); have n5_ := Aside0.mk (Kd.R_lower (Kd.R_new' ho0 (Kd.R_lt (qR HO_10.out))) (below_size (qB))); have n6_ := Aside0.mk (blk_below (g := gb289) (o := .cells #[.int .i64 t281, .slice Ao16 t282.length co16, .slice Ao17 t285.length co17] 27 (0, 0)) (qK BK289.out) hb); have n7_ := Aside0.mk (blk_below (g := gb301) (o := .cells #[.int .i64 t293, .slice Ao24 t294.length co24, .slice Ao25 t297.length co25] 27 (0, 0)) (qK BK301.out) hb); have n8_ := Aside0.mk (below_step (qB) hb); clear HO_10; clear HO_290001; clear HO_290002; clear HO_302001; clear HO_302002; clear BK289; clear BK301; clear HB; have HO_10 := n0_; have HO_290001 := n1_; have HO_290002 := n2_; have HO_302001 := n3_; have HO_302002 := n4_; have HO305 := n5_; have BK289 := n6_; have BK301 := n7_; have HB := n8_; clear n0_ n1_ n2_ n3_ n4_ n5_ n6_ n7_ n8_; (try clear hb); (try clear hb2); (try clear hk); (try clear hi); (try clear ho0); obtain ⟨Ao120, co120, eo120⟩ := Kd.R_slice HO305.out; subst eo120) | ((with_reducible refine gate_callee (f := 13) rfl ?_); refine goesL_ (some 52) rfl rfl Try.func13 (by kernel_rfl) rfl #[.slice Ao19 t290.length co19, .slice Ao120 t303.length co120] rfl qG ?_; (with_reducible refine (laws_eqNodeS.calls kj9 _ _ t290 _ _ t303 false _ ?side1 ?side2 ?side3 ?side4 A38.out).mono ?_); (case side1 => repeat (first | exact (Kd.R_reads' HO_10.out).2.2 | (with_reducible refine Kd.C_alloc ?_ _) | (with_reducible refine Kd.C_drewN ?_ _) | (with_reducible refine Kd.C_drew ?_))); (case side2 => exact (Kd.R_reads' HO_10.out).2.1); (case side3 => repeat (first | exact (Kd.R_reads' HO305.out).2.2 | (with_reducible refine Kd.C_alloc ?_ _) | (with_reducible refine Kd.C_drewN ?_ _) | (with_reducible refine Kd.C_drew ?_))); (case side4 => exact (Kd.R_reads' HO305.out).2.1); rintro e w121 ⟨rfl, hb⟩; refine ⟨_, rfl, ?_⟩; have n0_ := Aside0.mk (Kd.R_below (qR HO_10.out) hb); have n1_ := Aside0.mk (Kd.R_below (qR HO_290001.out) hb); have n2_ := Aside0.mk (Kd.R_below (qR HO_290002.out) hb); have n3_ := Aside0.mk (Kd.R_below (qR HO_302001.out) hb); have n4_ := Aside0.mk (Kd.R_below (qR HO_302002.out) hb); have n5_ := Aside0.mk (Kd.R_below (qR HO305.out) hb); have n6_ := Aside0.mk (blk_below (g := gb289) (o := .cells #[.int .i64 t281, .slice Ao16 t282.length co16, .slice Ao17 t285.length co17] 27 (0, 0)) (qK BK289.out) hb); have n7_ := Aside0.mk (blk_below (g := gb301) (o := .cells #[.int .i64 t293, .slice Ao24 t294.length co24, .slice Ao25 t297.length co25] 27 (0, 0)) (qK BK301.out) hb); have n8_ := Aside0.mk (below_step (qB) hb); clear HO_10; clear HO_290001; clear HO_290002; clear HO_302001; clear HO_302002; clear HO305; clear BK289; clear BK301; clear HB; have HO_10 := n0_; have HO_290001 := n1_; have HO_290002 := n2_; have HO_302001 := n3_; have HO_302002 := n4_; have HO305 := n5_; have BK289 := n6_; have BK301 := n7_; have HB := n8_; clear n0_ n1_ n2_ n3_ n4_ n5_ n6_ n7_ n8_; (try clear hb); (try clear hb2); (try clear hk); (try clear hi)))
      go_ret
      exact ⟨qE, qB⟩
/-- THE PURE STATEMENT of laws_FnExactGatesFor. -/
def laws_FnExactGatesFor.Pure : Prop := ∀ (a0 : Int) (a1 : Int) (l2 : List (S65)), (Lit.int .i64 a0).wf = true → (Lit.int .i64 a1).wf = true → ((l2).length ≤ maxLen ∧ ∀ y ∈ l2, wf65 y) → ∃ k, laws_FnExactGatesFor.f k a0 a1 l2 = some true
theorem laws_FnExactGatesFor.walk (P : laws_FnExactGatesFor.Pure) (a0 : Int) (a1 : Int) (A2 : Option Addr) (c2 : Nat) (l2 : List (S65)) (w : World) (hr2 : Kd.C k65 w A2 l2.length l2) (hc2 : l2.length ≤ c2) (w0 : (Lit.int .i64 a0).wf = true) (w1 : (Lit.int .i64 a1).wf = true) (w2 : ((l2).length ≤ maxLen ∧ ∀ y ∈ l2, wf65 y)) :
  Calls Try.prog 3 #[.int .i64 a0, .int .i64 a1, .slice A2 l2.length c2] w fun e w' => e = .returned (.bool true) ∧ Below w.heap.size w w' := by
 obtain ⟨k, h⟩ := P a0 a1 l2 w0 w1 w2
 refine (laws_FnExactGatesFor.calls k a0 a1 A2 c2 l2 true w hr2 hc2 h).mono ?_
 rintro e w' ⟨rfl, hd⟩
 exact ⟨rfl, hd⟩

end Go.Proofs.Ytckgeanmljmhfaa.X
