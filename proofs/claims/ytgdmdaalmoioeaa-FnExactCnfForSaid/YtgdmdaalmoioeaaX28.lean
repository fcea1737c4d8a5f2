/- Go functions as Lean functions, each with the proof that its call comes to just its answer. Conditions: the arguments are of their kinds. -/
import Derived.Test.YtgdmdaalmoioeaaX0
import Derived.Test.YtgdmdaalmoioeaaX1
import Derived.Test.YtgdmdaalmoioeaaX8
import Derived.Test.YtgdmdaalmoioeaaX9
import Derived.Test.YtgdmdaalmoioeaaX19
import Derived.Test.YtgdmdaalmoioeaaX20
import Derived.Test.YtgdmdaalmoioeaaX23
import Derived.Test.YtgdmdaalmoioeaaX24
import Derived.Test.YtgdmdaalmoioeaaXO
namespace Go.Proofs.Ytgdmdaalmoioeaa.X
open Go.RowKit Go.Proofs.YtgdmdaalmoioeaaW.PrintWords Go.Proofs.YtgdmdaalmoioeaaW.PrintLast Go.Proofs.YtgdmdaalmoioeaaW.PrintMore
attribute [local go_sem] max2_int min2_int max_two min_two max_three min_three max_four min_four   -- for this text's walks alone
set_option linter.unusedVariables false
set_option linter.unusedSimpArgs false

/-! ### laws_FnExactCnfFor: function 3 -/
mutual
def laws_FnExactCnfFor.j0 : Nat → List Bool → Bool → List Bool → Bool → Bool → Int → List (S67) → List Int → Int → List (List Int) → Int → List (S54) → List Int → Int → List (List Int) → Option (Bool)
 | 0, _, _, _, _, _, _, _, _, _, _, _, _, _, _, _ => none
 | k + 1, x1, x7, x9, x11, x51, x309000, x309001, x309002, x326000, x326001, x334000, x334001, x334002, x343000, x343001 => if x51 = true then (some false) else ((laws_toCircuit.f k x309000 x309001 x309002).bind fun bt344 => ((laws_eqCircuit.f k x334000 x334001 x334002 bt344.1 bt344.2.1 bt344.2.2).bind fun t351 => (if t351 = true then ((laws_toBoolS.f k x1).bind fun t352 => ((laws_eqBoolS.f k x9 t352).bind fun t355 => (if t355 = true then ((laws_markCircuit.f k x334000 x334001 x334002 1).bind fun bt356 => ((laws_markBoolS.f k x9 bt356.1).bind fun bt359 => (if bt359.1 < 0 then (laws_FnExactCnfFor.j1 k x1 x7 true x309000 x309001 x309002 x326000 x326001 x343000 x343001) else ((laws_eqCnf.f k x343000 x343001 x326000 x326001).bind fun t361 => (if t361 = true then (laws_FnExactCnfFor.j1 k x1 x7 (x11 != x7) x309000 x309001 x309002 x326000 x326001 x343000 x343001) else (laws_FnExactCnfFor.j1 k x1 x7 true x309000 x309001 x309002 x326000 x326001 x343000 x343001)))))) else (some false)))) else (some false))))
def laws_FnExactCnfFor.j1 : Nat → List Bool → Bool → Bool → Int → List (S67) → List Int → Int → List (List Int) → Int → List (List Int) → Option (Bool)
 | 0, _, _, _, _, _, _, _, _, _, _ => none
 | k + 1, x1, x7, x80, x309000, x309001, x309002, x326000, x326001, x343000, x343001 => if x80 = true then (some false) else ((laws_markCnf.f k x343000 x343001 1).bind fun bt362 => ((laws_heldCnf.f k x343000 bt362.2 1).bind fun t364 => (if t364 < 0 then (some false) else (if t364 = bt362.1 then ((laws_toCircuit.f k x309000 x309001 x309002).bind fun bt365 => ((laws_toBoolS.f k x1).bind fun t372 => ((impl_CnfFor.f k bt365.1 bt365.2.1 bt365.2.2 t372).bind fun bt375 => ((laws_eqCnf.f k bt375.1 bt375.2.1 x326000 x326001).bind fun t381 => (if t381 = true then (laws_FnExactCnfFor.j2 k bt362.1 (bt375.2.2 != x7) x343000 bt362.2) else (laws_FnExactCnfFor.j2 k bt362.1 true x343000 bt362.2)))))) else (some false)))))
def laws_FnExactCnfFor.j2 : Nat → Int → Bool → Int → List (List Int) → Option (Bool)
 | 0, _, _, _, _ => none
 | k + 1, x13, x108, x343000, x343001 => if x108 = true then (some false) else ((laws_heldCnf.f k x343000 x343001 1).bind fun t382 => (if t382 < 0 then (some false) else (if t382 = x13 then (some true) else (some false))))
end
def laws_FnExactCnfFor.f (k : Nat) (a0_0 : Int) (l0_1 : List (S67)) (l0_2 : List Int) (l1 : List Bool) : Option (Bool) := if (l1.length : Int) > 1048576 then (some true) else ((laws_szCircuit.f a0_0 l0_1 l0_2 1048576).bind fun t309 => (if t309 < 0 then (some true) else ((laws_toCircuit.f k a0_0 l0_1 l0_2).bind fun bt310 => ((laws_toBoolS.f k l1).bind fun t317 => ((spec_CnfFor.f k bt310.1 bt310.2.1 bt310.2.2 t317).bind fun bt320 => ((laws_toCircuit.f k a0_0 l0_1 l0_2).bind fun bt326 => ((laws_toBoolS.f k l1).bind fun t334 => ((impl_CnfFor.f k bt326.1 bt326.2.1 bt326.2.2 t334).bind fun bt337 => ((laws_eqCnf.f k bt337.1 bt337.2.1 bt320.1 bt320.2.1).bind fun t343 => (if t343 = true then (laws_FnExactCnfFor.j0 k l1 bt320.2.2 t334 bt337.2.2 (bt337.2.2 != bt320.2.2) a0_0 l0_1 l0_2 bt320.1 bt320.2.1 bt326.1 bt326.2.1 bt326.2.2 bt337.1 bt337.2.1) else (laws_FnExactCnfFor.j0 k l1 bt320.2.2 t334 bt337.2.2 true a0_0 l0_1 l0_2 bt320.1 bt320.2.1 bt326.1 bt326.2.1 bt326.2.2 bt337.1 bt337.2.1)))))))))))
theorem laws_FnExactCnfFor.mono_l : ∀ k, (∀ y0 y1 y2 y3 y4 y5 y6 y7 y8 y9 y10 y11 y12 y13 y14, LeO (laws_FnExactCnfFor.j0 k y0 y1 y2 y3 y4 y5 y6 y7 y8 y9 y10 y11 y12 y13 y14) (laws_FnExactCnfFor.j0 (k + 1) y0 y1 y2 y3 y4 y5 y6 y7 y8 y9 y10 y11 y12 y13 y14)) ∧ (∀ y0 y1 y2 y3 y4 y5 y6 y7 y8 y9, LeO (laws_FnExactCnfFor.j1 k y0 y1 y2 y3 y4 y5 y6 y7 y8 y9) (laws_FnExactCnfFor.j1 (k + 1) y0 y1 y2 y3 y4 y5 y6 y7 y8 y9)) ∧ (∀ y0 y1 y2 y3, LeO (laws_FnExactCnfFor.j2 k y0 y1 y2 y3) (laws_FnExactCnfFor.j2 (k + 1) y0 y1 y2 y3))
 | 0 => ⟨fun _ _ _ _ _ _ _ _ _ _ _ _ _ _ _ r h => by simp [laws_FnExactCnfFor.j0] at h, fun _ _ _ _ _ _ _ _ _ _ r h => by simp [laws_FnExactCnfFor.j1] at h, fun _ _ _ _ r h => by simp [laws_FnExactCnfFor.j2] at h⟩
 | k + 1 => by
  obtain ⟨ih0, ih1, ih2⟩ := laws_FnExactCnfFor.mono_l k
  refine ⟨?_, ?_, ?_⟩
  ·intro y0 y1 y2 y3 y4 y5 y6 y7 y8 y9 y10 y11 y12 y13 y14
   unfold laws_FnExactCnfFor.j0
   repeat' first
   | (with_reducible exact ih0 _ _ _ _ _ _ _ _ _ _ _ _ _ _ _)
   | (with_reducible exact ih1 _ _ _ _ _ _ _ _ _ _)
   | (with_reducible exact ih2 _ _ _ _)
   | (with_reducible exact impl_CnfFor.mono _ _ _ _ _)
   | (with_reducible exact laws_eqBoolS.mono _ _ _)
   | (with_reducible exact laws_eqCircuit.mono _ _ _ _ _ _ _)
   | (with_reducible exact laws_eqCnf.mono _ _ _ _ _)
   | (with_reducible exact laws_heldCnf.mono _ _ _ _)
   | (with_reducible exact laws_markBoolS.mono _ _ _)
   | (with_reducible exact laws_markCircuit.mono _ _ _ _ _)
   | (with_reducible exact laws_markCnf.mono _ _ _ _)
   | (with_reducible exact laws_toBoolS.mono _ _)
   | (with_reducible exact laws_toCircuit.mono _ _ _ _)
   | (with_reducible exact spec_CnfFor.mono _ _ _ _ _)
   | (with_reducible first | exact LeO.refl _ | exact LeO.none _ | refine LeO.ite ?_ ?_ | refine LeO.bind ?_ (fun _ => ?_))
   | exact ih0 _ _ _ _ _ _ _ _ _ _ _ _ _ _ _
   | exact ih1 _ _ _ _ _ _ _ _ _ _
   | exact ih2 _ _ _ _
   | exact impl_CnfFor.mono _ _ _ _ _
   | exact laws_eqBoolS.mono _ _ _
   | exact laws_eqCircuit.mono _ _ _ _ _ _ _
   | exact laws_eqCnf.mono _ _ _ _ _
   | exact laws_heldCnf.mono _ _ _ _
   | exact laws_markBoolS.mono _ _ _
   | exact laws_markCircuit.mono _ _ _ _ _
   | exact laws_markCnf.mono _ _ _ _
   | exact laws_toBoolS.mono _ _
   | exact laws_toCircuit.mono _ _ _ _
   | exact spec_CnfFor.mono _ _ _ _ _
   | exact LeO.none _ | refine LeO.ite ?_ ?_ | refine LeO.bind ?_ (fun _ => ?_)
  ·intro y0 y1 y2 y3 y4 y5 y6 y7 y8 y9
   unfold laws_FnExactCnfFor.j1
   repeat' first
   | (with_reducible exact ih0 _ _ _ _ _ _ _ _ _ _ _ _ _ _ _)
   | (with_reducible exact ih1 _ _ _ _ _ _ _ _ _ _)
   | (with_reducible exact ih2 _ _ _ _)
   | (with_reducible exact impl_CnfFor.mono _ _ _ _ _)
   | (with_reducible exact laws_eqBoolS.mono _ _ _)
   | (with_reducible exact laws_eqCircuit.mono _ _ _ _ _ _ _)
   | (with_reducible exact laws_eqCnf.mono _ _ _ _ _)
   | (with_reducible exact laws_heldCnf.mono _ _ _ _)
   | (with_reducible exact laws_markBoolS.mono _ _ _)
   | (with_reducible exact laws_markCircuit.mono _ _ _ _ _)
   | (with_reducible exact laws_markCnf.mono _ _ _ _)
   | (with_reducible exact laws_toBoolS.mono _ _)
   | (with_reducible exact laws_toCircuit.mono _ _ _ _)
   | (with_reducible exact spec_CnfFor.mono _ _ _ _ _)
   | (with_reducible first | exact LeO.refl _ | exact LeO.none _ | refine LeO.ite ?_ ?_ | refine LeO.bind ?_ (fun _ => ?_))
   | exact ih0 _ _ _ _ _ _ _ _ _ _ _ _ _ _ _
   | exact ih1 _ _ _ _ _ _ _ _ _ _
   | exact ih2 _ _ _ _
   | exact impl_CnfFor.mono _ _ _ _ _
   | exact laws_eqBoolS.mono _ _ _
   | exact laws_eqCircuit.mono _ _ _ _ _ _ _
   | exact laws_eqCnf.mono _ _ _ _ _
   | exact laws_heldCnf.mono _ _ _ _
   | exact laws_markBoolS.mono _ _ _
   | exact laws_markCircuit.mono _ _ _ _ _
   | exact laws_markCnf.mono _ _ _ _
   | exact laws_toBoolS.mono _ _
   | exact laws_toCircuit.mono _ _ _ _
   | exact spec_CnfFor.mono _ _ _ _ _
   | exact LeO.none _ | refine LeO.ite ?_ ?_ | refine LeO.bind ?_ (fun _ => ?_)
  ·intro y0 y1 y2 y3
   unfold laws_FnExactCnfFor.j2
   repeat' first
   | (with_reducible exact ih0 _ _ _ _ _ _ _ _ _ _ _ _ _ _ _)
   | (with_reducible exact ih1 _ _ _ _ _ _ _ _ _ _)
   | (with_reducible exact ih2 _ _ _ _)
   | (with_reducible exact impl_CnfFor.mono _ _ _ _ _)
   | (with_reducible exact laws_eqBoolS.mono _ _ _)
   | (with_reducible exact laws_eqCircuit.mono _ _ _ _ _ _ _)
   | (with_reducible exact laws_eqCnf.mono _ _ _ _ _)
   | (with_reducible exact laws_heldCnf.mono _ _ _ _)
   | (with_reducible exact laws_markBoolS.mono _ _ _)
   | (with_reducible exact laws_markCircuit.mono _ _ _ _ _)
   | (with_reducible exact laws_markCnf.mono _ _ _ _)
   | (with_reducible exact laws_toBoolS.mono _ _)
   | (with_reducible exact laws_toCircuit.mono _ _ _ _)
   | (with_reducible exact spec_CnfFor.mono _ _ _ _ _)
   | (with_reducible first | exact LeO.refl _ | exact LeO.none _ | refine LeO.ite ?_ ?_ | refine LeO.bind ?_ (fun _ => ?_))
   | exact ih0 _ _ _ _ _ _ _ _ _ _ _ _ _ _ _
   | exact ih1 _ _ _ _ _ _ _ _ _ _
   | exact ih2 _ _ _ _
   | exact impl_CnfFor.mono _ _ _ _ _
   | exact laws_eqBoolS.mono _ _ _
   | exact laws_eqCircuit.mono _ _ _ _ _ _ _
   | exact laws_eqCnf.mono _ _ _ _ _
   | exact laws_heldCnf.mono _ _ _ _
   | exact laws_markBoolS.mono _ _ _
   | exact laws_markCircuit.mono _ _ _ _ _
   | exact laws_markCnf.mono _ _ _ _
   | exact laws_toBoolS.mono _ _
   | exact laws_toCircuit.mono _ _ _ _
   | exact spec_CnfFor.mono _ _ _ _ _
   | exact LeO.none _ | refine LeO.ite ?_ ?_ | refine LeO.bind ?_ (fun _ => ?_)
theorem laws_FnExactCnfFor.mono : ∀ a0 a1 a2 a3 k, LeO (laws_FnExactCnfFor.f k a0 a1 a2 a3) (laws_FnExactCnfFor.f (k + 1) a0 a1 a2 a3) := by
 intro a0 a1 a2 a3 k
 obtain ⟨ih0, ih1, ih2⟩ := laws_FnExactCnfFor.mono_l k
 unfold laws_FnExactCnfFor.f
 repeat' first
   | (with_reducible exact ih0 _ _ _ _ _ _ _ _ _ _ _ _ _ _ _)
   | (with_reducible exact ih1 _ _ _ _ _ _ _ _ _ _)
   | (with_reducible exact ih2 _ _ _ _)
   | (with_reducible exact impl_CnfFor.mono _ _ _ _ _)
   | (with_reducible exact laws_eqBoolS.mono _ _ _)
   | (with_reducible exact laws_eqCircuit.mono _ _ _ _ _ _ _)
   | (with_reducible exact laws_eqCnf.mono _ _ _ _ _)
   | (with_reducible exact laws_heldCnf.mono _ _ _ _)
   | (with_reducible exact laws_markBoolS.mono _ _ _)
   | (with_reducible exact laws_markCircuit.mono _ _ _ _ _)
   | (with_reducible exact laws_markCnf.mono _ _ _ _)
   | (with_reducible exact laws_toBoolS.mono _ _)
   | (with_reducible exact laws_toCircuit.mono _ _ _ _)
   | (with_reducible exact spec_CnfFor.mono _ _ _ _ _)
   | (with_reducible first | exact LeO.refl _ | exact LeO.none _ | refine LeO.ite ?_ ?_ | refine LeO.bind ?_ (fun _ => ?_))
   | exact ih0 _ _ _ _ _ _ _ _ _ _ _ _ _ _ _
   | exact ih1 _ _ _ _ _ _ _ _ _ _
   | exact ih2 _ _ _ _
   | exact impl_CnfFor.mono _ _ _ _ _
   | exact laws_eqBoolS.mono _ _ _
   | exact laws_eqCircuit.mono _ _ _ _ _ _ _
   | exact laws_eqCnf.mono _ _ _ _ _
   | exact laws_heldCnf.mono _ _ _ _
   | exact laws_markBoolS.mono _ _ _
   | exact laws_markCircuit.mono _ _ _ _ _
   | exact laws_markCnf.mono _ _ _ _
   | exact laws_toBoolS.mono _ _
   | exact laws_toCircuit.mono _ _ _ _
   | exact spec_CnfFor.mono _ _ _ _ _
   | exact LeO.none _ | refine LeO.ite ?_ ?_ | refine LeO.bind ?_ (fun _ => ?_)
set_option maxHeartbeats 8000000 in
set_option maxRecDepth 100000 in
theorem laws_FnExactCnfFor.calls (k : Nat) (a0_0 : Int) (A0_1 : Option Addr) (c0_1 : Nat) (l0_1 : List (S67)) (A0_2 : Option Addr) (c0_2 : Nat) (l0_2 : List Int) (A1 : Option Addr) (c1 : Nat) (l1 : List Bool) (r : Bool) (w : World) (hr0_1 : Kd.C k67 w A0_1 l0_1.length l0_1) (hc0_1 : l0_1.length ≤ c0_1) (hr0_2 : Kd.C (Kd.int .i64) w A0_2 l0_2.length l0_2) (hc0_2 : l0_2.length ≤ c0_2) (hr1 : Kd.C Kd.bool w A1 l1.length l1) (hc1 : l1.length ≤ c1) (h : laws_FnExactCnfFor.f k a0_0 l0_1 l0_2 l1 = some true) :
  Calls Try.prog 3 #[.agg #[.int .i64 a0_0, .slice A0_1 l0_1.length c0_1, .slice A0_2 l0_2.length c0_2], .slice A1 l1.length c1] w fun e w' => e = .returned (.bool true) ∧ Below w.heap.size w w' := by
 have hu25 := Try.underlying25
 have hu30 := Try.underlying30
 have hu35 := Try.underlying35
 have HR0_1 := Aside0.mk hr0_1
 have HC0_1 := Aside0.mk hc0_1
 clear hr0_1 hc0_1
 have HR0_2 := Aside0.mk hr0_2
 have HC0_2 := Aside0.mk hc0_2
 clear hr0_2 hc0_2
 have HR1 := Aside0.mk hr1
 have HC1 := Aside0.mk hc1
 clear hr1 hc1
 have HB := Aside0.mk (Below.refl w.heap.size w)
 have H : (if (l1.length : Int) > 1048576 then (some true) else ((laws_szCircuit.f a0_0 l0_1 l0_2 1048576).bind fun t309 => (if t309 < 0 then (some true) else ((laws_toCircuit.f k a0_0 l0_1 l0_2).bind fun bt310 => ((laws_toBoolS.f k l1).bind fun t317 => ((spec_CnfFor.f k bt310.1 bt310.2.1 bt310.2.2 t317).bind fun bt320 => ((laws_toCircuit.f k a0_0 l0_1 l0_2).bind fun bt326 => ((laws_toBoolS.f k l1).bind fun t334 => ((impl_CnfFor.f k bt326.1 bt326.2.1 bt326.2.2 t334).bind fun bt337 => ((laws_eqCnf.f k bt337.1 bt337.2.1 bt320.1 bt320.2.1).bind fun t343 => (if t343 = true then (laws_FnExactCnfFor.j0 k l1 bt320.2.2 t334 bt337.2.2 (bt337.2.2 != bt320.2.2) a0_0 l0_1 l0_2 bt320.1 bt320.2.1 bt326.1 bt326.2.1 bt326.2.2 bt337.1 bt337.2.1) else (laws_FnExactCnfFor.j0 k l1 bt320.2.2 t334 bt337.2.2 true a0_0 l0_1 l0_2 bt320.1 bt320.2.1 bt326.1 bt326.2.1 bt326.2.2 bt337.1 bt337.2.1)))))))))))) = some true := h
 clear h
 by_cases c3 : (l1.length : Int) > 1048576
 ·rw [if_pos c3] at H
  have c3b0 : decide (1048576 < (l1.length : Int)) = true := decide_eq_true c3
  have c3b1 : decide (1048576 < l1.length) = true := decide_eq_true (by omega)
  clear c3
  go_enter Try.func3, Try.ntmps3
  go_wp2_with (first | ((with_reducible refine gate_dst (N := 2) rfl ?_); refine box_event ?hg (N := 2) ?hd (cs := #[.int .i64 a0_0, .slice A0_1 l0_1.length c0_1, .slice A0_2 l0_2.length c0_2]) (t := 25) ?hr ?_; (case hd => rfl); (case hg => rfl); (case hr => first | (go_simp; done) | (go_simp; rfl)); intro gb308 hg w4 hbox hb; have n0_ := Aside0.mk (below_step (qB) hb); have n1_ := Aside0.mk (hbox); have n2_ := Aside0.mk ((by rw [hg]; exact (below_size (qB)) : w.heap.size ≤ gb308)); have n3_ := Aside0.mk ((by rw [hg]; exact (below_size (qB)) : w.heap.size ≤ gb308)); clear HB; have HB := n0_; have BK308 := n1_; have GW308 := n2_; have GE308 := n3_; clear n0_ n1_ n2_ n3_; clear hb hbox hg))
  go_ret
  exact ⟨qE, qB⟩
 ·rw [if_neg c3] at H
  have c3b0 : decide (1048576 < (l1.length : Int)) = false := decide_eq_false c3
  have c3b1 : decide (1048576 < l1.length) = false := decide_eq_false (by omega)
  clear c3
  replace H := Option.bind_eq_some_iff.mp H
  obtain ⟨t309, A50, H⟩ := H
  replace H : (if t309 < 0 then (some true) else ((laws_toCircuit.f k a0_0 l0_1 l0_2).bind fun bt310 => ((laws_toBoolS.f k l1).bind fun t317 => ((spec_CnfFor.f k bt310.1 bt310.2.1 bt310.2.2 t317).bind fun bt320 => ((laws_toCircuit.f k a0_0 l0_1 l0_2).bind fun bt326 => ((laws_toBoolS.f k l1).bind fun t334 => ((impl_CnfFor.f k bt326.1 bt326.2.1 bt326.2.2 t334).bind fun bt337 => ((laws_eqCnf.f k bt337.1 bt337.2.1 bt320.1 bt320.2.1).bind fun t343 => (if t343 = true then (laws_FnExactCnfFor.j0 k l1 bt320.2.2 t334 bt337.2.2 (bt337.2.2 != bt320.2.2) a0_0 l0_1 l0_2 bt320.1 bt320.2.1 bt326.1 bt326.2.1 bt326.2.2 bt337.1 bt337.2.1) else (laws_FnExactCnfFor.j0 k l1 bt320.2.2 t334 bt337.2.2 true a0_0 l0_1 l0_2 bt320.1 bt320.2.1 bt326.1 bt326.2.1 bt326.2.2 bt337.1 bt337.2.1)))))))))) = some true := H
  have A5 := Aside0.mk A50
  clear A50
  by_cases c6 : t309 < 0
  ·rw [if_pos c6] at H
   have c6b0 : decide (t309 < 0) = true := decide_eq_true c6
   clear c6
   go_enter Try.func3, Try.ntmps3
   go_wp2_with (first | ((with_reducible refine gate_dst (N := 2) rfl ?_); refine box_event ?hg (N := 2) ?hd (cs := #[.int .i64 a0_0, .slice A0_1 l0_1.length c0_1, .slice A0_2 l0_2.length c0_2]) (t := 25) ?hr ?_; (case hd => rfl); (case hg => rfl); (case hr => first | (go_simp; done) | (go_simp; rfl)); intro gb308 hg w7 hbox hb; have n0_ := Aside0.mk (below_step (qB) hb); have n1_ := Aside0.mk (hbox); have n2_ := Aside0.mk ((by rw [hg]; exact (below_size (qB)) : w.heap.size ≤ gb308)); have n3_ := Aside0.mk ((by rw [hg]; exact (below_size (qB)) : w.heap.size ≤ gb308)); clear HB; have HB := n0_; have BK308 := n1_; have GW308 := n2_; have GE308 := n3_; clear n0_ n1_ n2_ n3_; clear hb hbox hg; have hcz8_0 : w7.cell? ⟨gb308, 0, none⟩ = some (.int .i64 a0_0) := (blk_cell BK308.out 0).trans rfl; have hcz8_1 : w7.cell? ⟨gb308, 1, none⟩ = some (.slice A0_1 l0_1.length c0_1) := (blk_cell BK308.out 1).trans rfl; have hcz8_2 : w7.cell? ⟨gb308, 2, none⟩ = some (.slice A0_2 l0_2.length c0_2) := (blk_cell BK308.out 2).trans rfl; have hfz8_0 := blk_frozen BK308.out 0; have hfz8_1 := blk_frozen BK308.out 1; have hfz8_2 := blk_frozen BK308.out 2) | ((with_reducible refine gate_callee (f := 4) rfl ?_); refine goesL_ (some 22) rfl rfl Try.func4 (by kernel_rfl) rfl #[.agg #[.int .i64 a0_0, .slice A0_1 l0_1.length c0_1, .slice A0_2 l0_2.length c0_2], .int .i64 1048576] rfl qG ?_; (with_reducible refine (laws_szCircuit.calls a0_0 _ _ l0_1 _ _ l0_2 1048576 t309 _ ?side1 ?side2 ?side3 ?side4 A5.out).mono ?_); (case side1 => exact qC (Kd.C_below HR0_1.out HB.out)); (case side2 => exact HC0_1.out); (case side3 => exact qC (Kd.C_below HR0_2.out HB.out)); (case side4 => exact HC0_2.out); rintro e w9 ⟨rfl, hb⟩; refine ⟨_, rfl, ?_⟩; have n0_ := Aside0.mk (blk_below (g := gb308) (o := .cells #[.int .i64 a0_0, .slice A0_1 l0_1.length c0_1, .slice A0_2 l0_2.length c0_2] 25 (0, 0)) (qK BK308.out) hb); have n1_ := Aside0.mk (below_step (qB) hb); clear BK308; clear HB; have BK308 := n0_; have HB := n1_; clear n0_ n1_; (try clear hb); (try clear hb2); (try clear hk); (try clear hi)))
   go_ret
   exact ⟨qE, qB⟩
  ·rw [if_neg c6] at H
   have c6b0 : decide (t309 < 0) = false := decide_eq_false c6
   clear c6
   replace H := Option.bind_eq_some_iff.mp H
   obtain ⟨⟨t310, t311, t314⟩, A100, H⟩ := H
   replace H : ((laws_toBoolS.f k l1).bind fun t317 => ((spec_CnfFor.f k t310 t311 t314 t317).bind fun bt320 => ((laws_toCircuit.f k a0_0 l0_1 l0_2).bind fun bt326 => ((laws_toBoolS.f k l1).bind fun t334 => ((impl_CnfFor.f k bt326.1 bt326.2.1 bt326.2.2 t334).bind fun bt337 => ((laws_eqCnf.f k bt337.1 bt337.2.1 bt320.1 bt320.2.1).bind fun t343 => (if t343 = true then (laws_FnExactCnfFor.j0 k l1 bt320.2.2 t334 bt337.2.2 (bt337.2.2 != bt320.2.2) a0_0 l0_1 l0_2 bt320.1 bt320.2.1 bt326.1 bt326.2.1 bt326.2.2 bt337.1 bt337.2.1) else (laws_FnExactCnfFor.j0 k l1 bt320.2.2 t334 bt337.2.2 true a0_0 l0_1 l0_2 bt320.1 bt320.2.1 bt326.1 bt326.2.1 bt326.2.2 bt337.1 bt337.2.1)))))))) = some true := H
   have A10 := Aside0.mk A100
   clear A100
   replace H := Option.bind_eq_some_iff.mp H
   obtain ⟨t317, A110, H⟩ := H
   replace H : ((spec_CnfFor.f k t310 t311 t314 t317).bind fun bt320 => ((laws_toCircuit.f k a0_0 l0_1 l0_2).bind fun bt326 => ((laws_toBoolS.f k l1).bind fun t334 => ((impl_CnfFor.f k bt326.1 bt326.2.1 bt326.2.2 t334).bind fun bt337 => ((laws_eqCnf.f k bt337.1 bt337.2.1 bt320.1 bt320.2.1).bind fun t343 => (if t343 = true then (laws_FnExactCnfFor.j0 k l1 bt320.2.2 t334 bt337.2.2 (bt337.2.2 != bt320.2.2) a0_0 l0_1 l0_2 bt320.1 bt320.2.1 bt326.1 bt326.2.1 bt326.2.2 bt337.1 bt337.2.1) else (laws_FnExactCnfFor.j0 k l1 bt320.2.2 t334 bt337.2.2 true a0_0 l0_1 l0_2 bt320.1 bt320.2.1 bt326.1 bt326.2.1 bt326.2.2 bt337.1 bt337.2.1))))))) = some true := H
   have A11 := Aside0.mk A110
   clear A110
   replace H := Option.bind_eq_some_iff.mp H
   obtain ⟨⟨t320, t321, t324⟩, A120, H⟩ := H
   replace H : ((laws_toCircuit.f k a0_0 l0_1 l0_2).bind fun bt326 => ((laws_toBoolS.f k l1).bind fun t334 => ((impl_CnfFor.f k bt326.1 bt326.2.1 bt326.2.2 t334).bind fun bt337 => ((laws_eqCnf.f k bt337.1 bt337.2.1 t320 t321).bind fun t343 => (if t343 = true then (laws_FnExactCnfFor.j0 k l1 t324 t334 bt337.2.2 (bt337.2.2 != t324) a0_0 l0_1 l0_2 t320 t321 bt326.1 bt326.2.1 bt326.2.2 bt337.1 bt337.2.1) else (laws_FnExactCnfFor.j0 k l1 t324 t334 bt337.2.2 true a0_0 l0_1 l0_2 t320 t321 bt326.1 bt326.2.1 bt326.2.2 bt337.1 bt337.2.1)))))) = some true := H
   have A12 := Aside0.mk A120
   clear A120
   replace H := Option.bind_eq_some_iff.mp H
   obtain ⟨⟨t326, t327, t330⟩, A130, H⟩ := H
   replace H : ((laws_toBoolS.f k l1).bind fun t334 => ((impl_CnfFor.f k t326 t327 t330 t334).bind fun bt337 => ((laws_eqCnf.f k bt337.1 bt337.2.1 t320 t321).bind fun t343 => (if t343 = true then (laws_FnExactCnfFor.j0 k l1 t324 t334 bt337.2.2 (bt337.2.2 != t324) a0_0 l0_1 l0_2 t320 t321 t326 t327 t330 bt337.1 bt337.2.1) else (laws_FnExactCnfFor.j0 k l1 t324 t334 bt337.2.2 true a0_0 l0_1 l0_2 t320 t321 t326 t327 t330 bt337.1 bt337.2.1))))) = some true := H
   have A13 := Aside0.mk A130
   clear A130
   replace H := Option.bind_eq_some_iff.mp H
   obtain ⟨t334, A140, H⟩ := H
   replace H : ((impl_CnfFor.f k t326 t327 t330 t334).bind fun bt337 => ((laws_eqCnf.f k bt337.1 bt337.2.1 t320 t321).bind fun t343 => (if t343 = true then (laws_FnExactCnfFor.j0 k l1 t324 t334 bt337.2.2 (bt337.2.2 != t324) a0_0 l0_1 l0_2 t320 t321 t326 t327 t330 bt337.1 bt337.2.1) else (laws_FnExactCnfFor.j0 k l1 t324 t334 bt337.2.2 true a0_0 l0_1 l0_2 t320 t321 t326 t327 t330 bt337.1 bt337.2.1)))) = some true := H
   have A14 := Aside0.mk A140
   clear A140
   replace H := Option.bind_eq_some_iff.mp H
   obtain ⟨⟨t337, t338, t341⟩, A150, H⟩ := H
   replace H : ((laws_eqCnf.f k t337 t338 t320 t321).bind fun t343 => (if t343 = true then (laws_FnExactCnfFor.j0 k l1 t324 t334 t341 (t341 != t324) a0_0 l0_1 l0_2 t320 t321 t326 t327 t330 t337 t338) else (laws_FnExactCnfFor.j0 k l1 t324 t334 t341 true a0_0 l0_1 l0_2 t320 t321 t326 t327 t330 t337 t338))) = some true := H
   have A15 := Aside0.mk A150
   clear A150
   have HC16 := Aside0.mk H
   clear H
   go_enter Try.func3, Try.ntmps3
   go_upto_region 11 with (first | ((with_reducible refine gate_dst (N := 2) rfl ?_); refine box_event ?hg (N := 2) ?hd (cs := #[.int .i64 a0_0, .slice A0_1 l0_1.length c0_1, .slice A0_2 l0_2.length c0_2]) (t := 25) ?hr ?_; (case hd => rfl); (case hg => rfl); (case hr => first | (go_simp; done) | (go_simp; rfl)); intro gb308 hg w17 hbox hb; have n0_ := Aside0.mk (below_step (qB) hb); have n1_ := Aside0.mk (hbox); have n2_ := Aside0.mk ((by rw [hg]; exact (below_size (qB)) : w.heap.size ≤ gb308)); have n3_ := Aside0.mk ((by rw [hg]; exact (below_size (qB)) : w.heap.size ≤ gb308)); clear HB; have HB := n0_; have BK308 := n1_; have GW308 := n2_; have GE308 := n3_; clear n0_ n1_ n2_ n3_; clear hb hbox hg; have hcz18_0 : w17.cell? ⟨gb308, 0, none⟩ = some (.int .i64 a0_0) := (blk_cell BK308.out 0).trans rfl; have hcz18_1 : w17.cell? ⟨gb308, 1, none⟩ = some (.slice A0_1 l0_1.length c0_1) := (blk_cell BK308.out 1).trans rfl; have hcz18_2 : w17.cell? ⟨gb308, 2, none⟩ = some (.slice A0_2 l0_2.length c0_2) := (blk_cell BK308.out 2).trans rfl; have hfz18_0 := blk_frozen BK308.out 0; have hfz18_1 := blk_frozen BK308.out 1; have hfz18_2 := blk_frozen BK308.out 2) | ((with_reducible refine gate_callee (f := 4) rfl ?_); refine goesL_ (some 22) rfl rfl Try.func4 (by kernel_rfl) rfl #[.agg #[.int .i64 a0_0, .slice A0_1 l0_1.length c0_1, .slice A0_2 l0_2.length c0_2], .int .i64 1048576] rfl qG ?_; (with_reducible refine (laws_szCircuit.calls a0_0 _ _ l0_1 _ _ l0_2 1048576 t309 _ ?side1 ?side2 ?side3 ?side4 A5.out).mono ?_); (case side1 => exact qC (Kd.C_below HR0_1.out HB.out)); (case side2 => exact HC0_1.out); (case side3 => exact qC (Kd.C_below HR0_2.out HB.out)); (case side4 => exact HC0_2.out); rintro e w19 ⟨rfl, hb⟩; refine ⟨_, rfl, ?_⟩; have n0_ := Aside0.mk (blk_below (g := gb308) (o := .cells #[.int .i64 a0_0, .slice A0_1 l0_1.length c0_1, .slice A0_2 l0_2.length c0_2] 25 (0, 0)) (qK BK308.out) hb); have n1_ := Aside0.mk (below_step (qB) hb); clear BK308; clear HB; have BK308 := n0_; have HB := n1_; clear n0_ n1_; (try clear hb); (try clear hb2); (try clear hk); (try clear hi); have hcz20_0 : w19.cell? ⟨gb308, 0, none⟩ = some (.int .i64 a0_0) := (blk_cell BK308.out 0).trans rfl; have hcz20_1 : w19.cell? ⟨gb308, 1, none⟩ = some (.slice A0_1 l0_1.length c0_1) := (blk_cell BK308.out 1).trans rfl; have hcz20_2 : w19.cell? ⟨gb308, 2, none⟩ = some (.slice A0_2 l0_2.length c0_2) := (blk_cell BK308.out 2).trans rfl; have hfz20_0 := blk_frozen BK308.out 0; have hfz20_1 := blk_frozen BK308.out 1; have hfz20_2 := blk_frozen BK308.out 2) | ((with_reducible refine gate_callee (f := 6) rfl ?_); refine goesL_ (some 27) rfl rfl Try.func6 (by kernel_rfl) rfl #[.agg #[.int .i64 a0_0, .slice A0_1 l0_1.length c0_1, .slice A0_2 l0_2.length c0_2]] rfl qG ?_; (with_reducible refine (laws_toCircuit.calls k a0_0 _ _ l0_1 _ _ l0_2 t310 t311 t314 _ ?side1 ?side2 ?side3 ?side4 A10.out).mono ?_); (case side1 => exact qC (Kd.C_below HR0_1.out HB.out)); (case side2 => exact HC0_1.out); (case side3 => exact qC (Kd.C_below HR0_2.out HB.out)); (case side4 => exact HC0_2.out); rintro e w21 ⟨v312, v315, rfl, ho0, ho1, hb⟩; refine ⟨_, rfl, ?_⟩; have n0_ := Aside0.mk (Kd.R_lower ho0 (below_size (qB))); have n1_ := Aside0.mk (Kd.R_lower ho1 (below_size (qB))); have n2_ := Aside0.mk (blk_below (g := gb308) (o := .cells #[.int .i64 a0_0, .slice A0_1 l0_1.length c0_1, .slice A0_2 l0_2.length c0_2] 25 (0, 0)) (qK BK308.out) hb); have n3_ := Aside0.mk (below_step (qB) hb); clear BK308; clear HB; have HO313 := n0_; have HO316 := n1_; have BK308 := n2_; have HB := n3_; clear n0_ n1_ n2_ n3_; (try clear hb); (try clear hb2); (try clear hk); (try clear hi); (try clear ho0); (try clear ho1)) | ((with_reducible refine gate_callee (f := 7) rfl ?_); refine goesL_ (some 29) rfl rfl Try.func7 (by kernel_rfl) rfl #[.slice A1 l1.length c1] rfl qG ?_; (with_reducible refine (laws_toBoolS.calls k _ _ l1 t317 _ ?side1 ?side2 A11.out).mono ?_); (case side1 => exact qC (Kd.C_below HR1.out HB.out)); (case side2 => exact HC1.out); rintro e w22 ⟨v318, rfl, ho0, hb⟩; refine ⟨_, rfl, ?_⟩; have n0_ := Aside0.mk (Kd.R_below (qR HO313.out) hb); have n1_ := Aside0.mk (Kd.R_below (qR HO316.out) hb); have n2_ := Aside0.mk (Kd.R_lower ho0 (below_size (qB))); have n3_ := Aside0.mk (blk_below (g := gb308) (o := .cells #[.int .i64 a0_0, .slice A0_1 l0_1.length c0_1, .slice A0_2 l0_2.length c0_2] 25 (0, 0)) (qK BK308.out) hb); have n4_ := Aside0.mk (below_step (qB) hb); clear HO313; clear HO316; clear BK308; clear HB; have HO313 := n0_; have HO316 := n1_; have HO319 := n2_; have BK308 := n3_; have HB := n4_; clear n0_ n1_ n2_ n3_ n4_; (try clear hb); (try clear hb2); (try clear hk); (try clear hi); (try clear ho0); obtain ⟨Ao23, co23, eo23⟩ := Kd.R_slice HO313.out; subst eo23; obtain ⟨Ao24, co24, eo24⟩ := Kd.R_slice HO316.out; subst eo24; obtain ⟨Ao25, co25, eo25⟩ := Kd.R_slice HO319.out; subst eo25) | ((with_reducible refine gate_callee (f := 5) rfl ?_); refine goesL_ (some 30) rfl rfl Try.func5 (by kernel_rfl) rfl #[.agg #[.int .i64 t310, .slice Ao23 t311.length co23, .slice Ao24 t314.length co24], .slice Ao25 t317.length co25] rfl qG ?_; (with_reducible refine (spec_CnfFor.calls k t310 _ _ t311 _ _ t314 _ _ t317 t320 t321 t324 _ ?side1 ?side2 ?side3 ?side4 ?side5 ?side6 A12.out).mono ?_); (case side1 => repeat (first | exact (Kd.R_reads' HO313.out).2.2 | (with_reducible refine Kd.C_alloc ?_ _) | (with_reducible refine Kd.C_drewN ?_ _) | (with_reducible refine Kd.C_drew ?_))); (case side2 => exact (Kd.R_reads' HO313.out).2.1); (case side3 => repeat (first | exact (Kd.R_reads' HO316.out).2.2 | (with_reducible refine Kd.C_alloc ?_ _) | (with_reducible refine Kd.C_drewN ?_ _) | (with_reducible refine Kd.C_drew ?_))); (case side4 => exact (Kd.R_reads' HO316.out).2.1); (case side5 => repeat (first | exact (Kd.R_reads' HO319.out).2.2 | (with_reducible refine Kd.C_alloc ?_ _) | (with_reducible refine Kd.C_drewN ?_ _) | (with_reducible refine Kd.C_drew ?_))); (case side6 => exact (Kd.R_reads' HO319.out).2.1); rintro e w26 ⟨v322, rfl, ho0, hb⟩; refine ⟨_, rfl, ?_⟩; have n0_ := Aside0.mk (Kd.R_below (qR HO313.out) hb); have n1_ := Aside0.mk (Kd.R_below (qR HO316.out) hb); have n2_ := Aside0.mk (Kd.R_below (qR HO319.out) hb); have n3_ := Aside0.mk (Kd.V_lower (Kd.V_mono (ok' := fun k_ => some k_ ≠ (.slice Ao23 t311.length co23 : Value).ownBlock ∧ some k_ ≠ (.slice Ao24 t314.length co24 : Value).ownBlock ∧ some k_ ≠ (.slice Ao25 t317.length co25 : Value).ownBlock ∧ k_ ≠ gb308) ho0 (fun k_ hk_ => ⟨(Kd.fresh' (Kd.R_lt (qR HO313.out)) k_ hk_), (Kd.fresh' (Kd.R_lt (qR HO316.out)) k_ hk_), (Kd.fresh' (Kd.R_lt (qR HO319.out)) k_ hk_), (Kd.freshB (g := gb308) (o := .cells #[.int .i64 a0_0, .slice A0_1 l0_1.length c0_1, .slice A0_2 l0_2.length c0_2] 25 (0, 0)) (qK BK308.out) k_ hk_)⟩)) (below_size (qB))); have n4_ := Aside0.mk (blk_below (g := gb308) (o := .cells #[.int .i64 a0_0, .slice A0_1 l0_1.length c0_1, .slice A0_2 l0_2.length c0_2] 25 (0, 0)) (qK BK308.out) hb); have n5_ := Aside0.mk (below_step (qB) hb); clear HO313; clear HO316; clear HO319; clear BK308; clear HB; have HO313 := n0_; have HO316 := n1_; have HO319 := n2_; have HO323 := n3_; have BK308 := n4_; have HB := n5_; clear n0_ n1_ n2_ n3_ n4_ n5_; (try clear hb); (try clear hb2); (try clear hk); (try clear hi); (try clear ho0)) | ((with_reducible refine gate_dst (N := 6) rfl ?_); refine box_event ?hg (N := 6) ?hd (cs := #[.int .i64 0, .slice none 0 0]) (t := 30) ?hr ?_; (case hd => rfl); (case hg => rfl); (case hr => first | (go_simp; done) | (go_simp; rfl)); intro gb325 hg w27 hbox hb; have n0_ := Aside0.mk (Kd.R_below (qR HO313.out) hb); have n1_ := Aside0.mk (Kd.R_below (qR HO316.out) hb); have n2_ := Aside0.mk (Kd.R_below (qR HO319.out) hb); have n3_ := Aside0.mk (Kd.V_below (Kd.V_elderB (by (with_reducible repeat (first | apply Kd.V_alloc | apply Kd.V_drewN | apply Kd.V_drew)); exact HO323.out) gb325 (Nat.le_of_eq hg.symm)) hb); have n4_ := Aside0.mk (blk_below (g := gb308) (o := .cells #[.int .i64 a0_0, .slice A0_1 l0_1.length c0_1, .slice A0_2 l0_2.length c0_2] 25 (0, 0)) (qK BK308.out) hb); have n5_ := Aside0.mk (below_step (qB) hb); have n6_ := Aside0.mk (hbox); have n7_ := Aside0.mk ((by rw [hg]; exact (below_size (qB)) : w.heap.size ≤ gb325)); have n8_ := Aside0.mk ((by rw [hg]; exact (below_size (qB)) : w.heap.size ≤ gb325)); have n9_ := Aside0.mk ((by rw [hg]; exact Nat.ne_of_lt (blk_lt (g := gb308) (o := .cells #[.int .i64 a0_0, .slice A0_1 l0_1.length c0_1, .slice A0_2 l0_2.length c0_2] 25 (0, 0)) (qK BK308.out)) : gb308 ≠ gb325)); have n10_ := Aside0.mk ((by rw [hg]; exact Nat.ne_of_gt (blk_lt (g := gb308) (o := .cells #[.int .i64 a0_0, .slice A0_1 l0_1.length c0_1, .slice A0_2 l0_2.length c0_2] 25 (0, 0)) (qK BK308.out)) : gb325 ≠ gb308)); clear HO313; clear HO316; clear HO319; clear HO323; clear BK308; clear HB; have HO313 := n0_; have HO316 := n1_; have HO319 := n2_; have HO323 := n3_; have BK308 := n4_; have HB := n5_; have BK325 := n6_; have GW325 := n7_; have GE325 := n8_; have NB308_325 := n9_; have NB325_308 := n10_; clear n0_ n1_ n2_ n3_ n4_ n5_ n6_ n7_ n8_ n9_ n10_; clear hb hbox hg; have hnb28 := NB325_308.out; have hnc28 := NB308_325.out; have hcz29_0 : w27.cell? ⟨gb325, 0, none⟩ = some (.int .i64 0) := (blk_cell BK325.out 0).trans rfl; have hcz29_1 : w27.cell? ⟨gb325, 1, none⟩ = some (.slice none 0 0) := (blk_cell BK325.out 1).trans rfl; have hfz29_0 := blk_frozen BK325.out 0; have hfz29_1 := blk_frozen BK325.out 1; obtain ⟨Ao30, co30, eo30⟩ := Kd.V_slice HO323.out; subst eo30; have hcz31_0 : w27.cell? ⟨gb308, 0, none⟩ = some (.int .i64 a0_0) := (blk_cell BK308.out 0).trans rfl; have hcz31_1 : w27.cell? ⟨gb308, 1, none⟩ = some (.slice A0_1 l0_1.length c0_1) := (blk_cell BK308.out 1).trans rfl; have hcz31_2 : w27.cell? ⟨gb308, 2, none⟩ = some (.slice A0_2 l0_2.length c0_2) := (blk_cell BK308.out 2).trans rfl; have hfz31_0 := blk_frozen BK308.out 0; have hfz31_1 := blk_frozen BK308.out 1; have hfz31_2 := blk_frozen BK308.out 2) | ((with_reducible refine gate_callee (f := 6) rfl ?_); refine goesL_ (some 34) rfl rfl Try.func6 (by kernel_rfl) rfl #[.agg #[.int .i64 a0_0, .slice A0_1 l0_1.length c0_1, .slice A0_2 l0_2.length c0_2]] rfl qG ?_; (with_reducible refine (laws_toCircuit.calls k a0_0 _ _ l0_1 _ _ l0_2 t326 t327 t330 _ ?side1 ?side2 ?side3 ?side4 A13.out).mono ?_); (case side1 => exact Kd.C_below HR0_1.out (qB)); (case side2 => exact HC0_1.out); (case side3 => exact Kd.C_below HR0_2.out (qB)); (case side4 => exact HC0_2.out); rintro e w32 ⟨v328, v331, rfl, ho0, ho1, hb⟩; refine ⟨_, rfl, ?_⟩; have n0_ := Aside0.mk (Kd.R_elder' (by (with_reducible repeat (first | apply Kd.R_alloc | apply Kd.R_drewN | apply Kd.R_drew)); exact (Kd.R_mono (Kd.R_far (p := ⟨gb325, 1, none⟩) (Kd.R_far (p := ⟨gb325, 0, none⟩) (Kd.R_types HO313.out BK325.out (by decide)) (fun _ hk => hk.2) (.int .i64 t320)) (fun _ hk => hk.2) (.slice Ao30 t321.length co30)) (fun _ h_ => h_.1))) (Kd.R_base ho0) hb); have n1_ := Aside0.mk (Kd.R_elder' (by (with_reducible repeat (first | apply Kd.R_alloc | apply Kd.R_drewN | apply Kd.R_drew)); exact (Kd.R_mono (Kd.R_far (p := ⟨gb325, 1, none⟩) (Kd.R_far (p := ⟨gb325, 0, none⟩) (Kd.R_types HO316.out BK325.out (by decide)) (fun _ hk => hk.2) (.int .i64 t320)) (fun _ hk => hk.2) (.slice Ao30 t321.length co30)) (fun _ h_ => h_.1))) (Kd.R_base ho1) hb); have n2_ := Aside0.mk (Kd.R_below (by (with_reducible repeat (first | apply Kd.R_alloc | apply Kd.R_drewN | apply Kd.R_drew)); exact (Kd.R_mono (Kd.R_far (p := ⟨gb325, 1, none⟩) (Kd.R_far (p := ⟨gb325, 0, none⟩) (Kd.R_types HO319.out BK325.out (by decide)) (fun _ hk => hk.2) (.int .i64 t320)) (fun _ hk => hk.2) (.slice Ao30 t321.length co30)) (fun _ h_ => h_.1))) hb); have n3_ := Aside0.mk (Kd.V_mono (Kd.V_told (Kd.V_told (Kd.V_old (by (with_reducible repeat (first | apply Kd.V_alloc | apply Kd.V_drewN | apply Kd.V_drew)); exact (Kd.V_mono (Kd.V_far (p := ⟨gb325, 1, none⟩) (Kd.V_far (p := ⟨gb325, 0, none⟩) (Kd.V_mono HO323.out (fun k_ hk => (⟨hk, hk.2⟩ : _ ∧ k_ ≠ gb325))) (fun _ hk => hk.2) (.int .i64 t320)) (fun _ hk => hk.2) (.slice Ao30 t321.length co30)) (fun _ h_ => h_.1))) hb) (Kd.R_base ho0)) (Kd.R_base ho1)) (fun _ h_ => h_.1)); have n4_ := Aside0.mk (Kd.R_lower (Kd.R_new' ho0 (Kd.R_lt (by (with_reducible repeat (first | apply Kd.R_alloc | apply Kd.R_drewN | apply Kd.R_drew)); exact (Kd.R_mono (Kd.R_far (p := ⟨gb325, 1, none⟩) (Kd.R_far (p := ⟨gb325, 0, none⟩) (Kd.R_types HO313.out BK325.out (by decide)) (fun _ hk => hk.2) (.int .i64 t320)) (fun _ hk => hk.2) (.slice Ao30 t321.length co30)) (fun _ h_ => h_.1))))) (below_size (qB))); have n5_ := Aside0.mk (Kd.R_lower (Kd.R_new' ho1 (Kd.R_lt (by (with_reducible repeat (first | apply Kd.R_alloc | apply Kd.R_drewN | apply Kd.R_drew)); exact (Kd.R_mono (Kd.R_far (p := ⟨gb325, 1, none⟩) (Kd.R_far (p := ⟨gb325, 0, none⟩) (Kd.R_types HO316.out BK325.out (by decide)) (fun _ hk => hk.2) (.int .i64 t320)) (fun _ hk => hk.2) (.slice Ao30 t321.length co30)) (fun _ h_ => h_.1))))) (below_size (qB))); have n6_ := Aside0.mk (blk_below (g := gb308) (o := .cells #[.int .i64 a0_0, .slice A0_1 l0_1.length c0_1, .slice A0_2 l0_2.length c0_2] 25 (0, 0)) (qF BK308.out) hb); have n7_ := Aside0.mk (blk_below (g := gb325) (o := .cells #[.int .i64 t320, .slice Ao30 t321.length co30] 30 (0, 0)) (by (with_reducible repeat (first | refine blk_drewN ?_ _ | refine blk_drew ?_ | refine blk_alloc ?_ _)); refine blk_put (cs := #[.int .i64 t320, .slice none 0 0]) ?_ 1 _ rfl; refine blk_put (cs := #[.int .i64 0, .slice none 0 0]) ?_ 0 _ rfl; exact qK BK325.out) hb); have n8_ := Aside0.mk (below_step (qB) hb); clear HO313; clear HO316; clear HO319; clear HO323; clear BK308; clear BK325; clear HB; have HO313 := n0_; have HO316 := n1_; have HO319 := n2_; have HO323 := n3_; have HO329 := n4_; have HO332 := n5_; have BK308 := n6_; have BK325 := n7_; have HB := n8_; clear n0_ n1_ n2_ n3_ n4_ n5_ n6_ n7_ n8_; (try clear hb); (try clear hb2); (try clear hk); (try clear hi); (try clear ho0); (try clear ho1)) | ((with_reducible refine gate_dst (N := 8) rfl ?_); refine box_event ?hg (N := 8) ?hd (cs := #[.int .i64 0, .slice none 0 0, .slice none 0 0]) (t := 35) ?hr ?_; (case hd => rfl); (case hg => rfl); (case hr => first | (go_simp; done) | (go_simp; rfl)); intro gb333 hg w33 hbox hb; have n0_ := Aside0.mk (Kd.R_below (qR HO313.out) hb); have n1_ := Aside0.mk (Kd.R_below (qR HO316.out) hb); have n2_ := Aside0.mk (Kd.R_below (qR HO319.out) hb); have n3_ := Aside0.mk (Kd.V_below (Kd.V_elderB (by (with_reducible repeat (first | apply Kd.V_alloc | apply Kd.V_drewN | apply Kd.V_drew)); exact HO323.out) gb333 (Nat.le_of_eq hg.symm)) hb); have n4_ := Aside0.mk (Kd.R_below (qR HO329.out) hb); have n5_ := Aside0.mk (Kd.R_below (qR HO332.out) hb); have n6_ := Aside0.mk (blk_below (g := gb308) (o := .cells #[.int .i64 a0_0, .slice A0_1 l0_1.length c0_1, .slice A0_2 l0_2.length c0_2] 25 (0, 0)) (qK BK308.out) hb); have n7_ := Aside0.mk (blk_below (g := gb325) (o := .cells #[.int .i64 t320, .slice Ao30 t321.length co30] 30 (0, 0)) (qK BK325.out) hb); have n8_ := Aside0.mk (below_step (qB) hb); have n9_ := Aside0.mk (hbox); have n10_ := Aside0.mk ((by rw [hg]; exact (below_size (qB)) : w.heap.size ≤ gb333)); have n11_ := Aside0.mk ((by rw [hg]; exact (below_size (qB)) : w.heap.size ≤ gb333)); have n12_ := Aside0.mk ((by rw [hg]; exact Nat.ne_of_lt (blk_lt (g := gb308) (o := .cells #[.int .i64 a0_0, .slice A0_1 l0_1.length c0_1, .slice A0_2 l0_2.length c0_2] 25 (0, 0)) (qK BK308.out)) : gb308 ≠ gb333)); have n13_ := Aside0.mk ((by rw [hg]; exact Nat.ne_of_gt (blk_lt (g := gb308) (o := .cells #[.int .i64 a0_0, .slice A0_1 l0_1.length c0_1, .slice A0_2 l0_2.length c0_2] 25 (0, 0)) (qK BK308.out)) : gb333 ≠ gb308)); have n14_ := Aside0.mk ((by rw [hg]; exact Nat.ne_of_lt (blk_lt (g := gb325) (o := .cells #[.int .i64 t320, .slice Ao30 t321.length co30] 30 (0, 0)) (qK BK325.out)) : gb325 ≠ gb333)); have n15_ := Aside0.mk ((by rw [hg]; exact Nat.ne_of_gt (blk_lt (g := gb325) (o := .cells #[.int .i64 t320, .slice Ao30 t321.length co30] 30 (0, 0)) (qK BK325.out)) : gb333 ≠ gb325)); clear HO313; clear HO316; clear HO319; clear HO323; clear HO329; clear HO332; clear BK308; clear BK325; clear HB; have HO313 := n0_; have HO316 := n1_; have HO319 := n2_; have HO323 := n3_; have HO329 := n4_; have HO332 := n5_; have BK308 := n6_; have BK325 := n7_; have HB := n8_; have BK333 := n9_; have GW333 := n10_; have GE333 := n11_; have NB308_333 := n12_; have NB333_308 := n13_; have NB325_333 := n14_; have NB333_325 := n15_; clear n0_ n1_ n2_ n3_ n4_ n5_ n6_ n7_ n8_ n9_ n10_ n11_ n12_ n13_ n14_ n15_; clear hb hbox hg; have hnb34 := NB333_308.out; have hnc34 := NB308_333.out; have hnb35 := NB333_325.out; have hnc35 := NB325_333.out; have hcz36_0 : w33.cell? ⟨gb333, 0, none⟩ = some (.int .i64 0) := (blk_cell BK333.out 0).trans rfl; have hcz36_1 : w33.cell? ⟨gb333, 1, none⟩ = some (.slice none 0 0) := (blk_cell BK333.out 1).trans rfl; have hcz36_2 : w33.cell? ⟨gb333, 2, none⟩ = some (.slice none 0 0) := (blk_cell BK333.out 2).trans rfl; have hfz36_0 := blk_frozen BK333.out 0; have hfz36_1 := blk_frozen BK333.out 1; have hfz36_2 := blk_frozen BK333.out 2; obtain ⟨Ao37, co37, eo37⟩ := Kd.R_slice HO329.out; subst eo37; obtain ⟨Ao38, co38, eo38⟩ := Kd.R_slice HO332.out; subst eo38) | ((with_reducible refine gate_callee (f := 7) rfl ?_); refine goesL_ (some 36) rfl rfl Try.func7 (by kernel_rfl) rfl #[.slice A1 l1.length c1] rfl qG ?_; (with_reducible refine (laws_toBoolS.calls k _ _ l1 t334 _ ?side1 ?side2 A14.out).mono ?_); (case side1 => exact Kd.C_below HR1.out (qB)); (case side2 => exact HC1.out); rintro e w39 ⟨v335, rfl, ho0, hb⟩; refine ⟨_, rfl, ?_⟩; have n0_ := Aside0.mk (Kd.R_below (by (with_reducible repeat (first | apply Kd.R_alloc | apply Kd.R_drewN | apply Kd.R_drew)); exact (Kd.R_mono (Kd.R_far (p := ⟨gb333, 2, none⟩) (Kd.R_far (p := ⟨gb333, 1, none⟩) (Kd.R_far (p := ⟨gb333, 0, none⟩) (Kd.R_types HO313.out BK333.out (by decide)) (fun _ hk => hk.2) (.int .i64 t326)) (fun _ hk => hk.2) (.slice Ao37 t327.length co37)) (fun _ hk => hk.2) (.slice Ao38 t330.length co38)) (fun _ h_ => h_.1))) hb); have n1_ := Aside0.mk (Kd.R_below (by (with_reducible repeat (first | apply Kd.R_alloc | apply Kd.R_drewN | apply Kd.R_drew)); exact (Kd.R_mono (Kd.R_far (p := ⟨gb333, 2, none⟩) (Kd.R_far (p := ⟨gb333, 1, none⟩) (Kd.R_far (p := ⟨gb333, 0, none⟩) (Kd.R_types HO316.out BK333.out (by decide)) (fun _ hk => hk.2) (.int .i64 t326)) (fun _ hk => hk.2) (.slice Ao37 t327.length co37)) (fun _ hk => hk.2) (.slice Ao38 t330.length co38)) (fun _ h_ => h_.1))) hb); have n2_ := Aside0.mk (Kd.R_elder' (by (with_reducible repeat (first | apply Kd.R_alloc | apply Kd.R_drewN | apply Kd.R_drew)); exact (Kd.R_mono (Kd.R_far (p := ⟨gb333, 2, none⟩) (Kd.R_far (p := ⟨gb333, 1, none⟩) (Kd.R_far (p := ⟨gb333, 0, none⟩) (Kd.R_types HO319.out BK333.out (by decide)) (fun _ hk => hk.2) (.int .i64 t326)) (fun _ hk => hk.2) (.slice Ao37 t327.length co37)) (fun _ hk => hk.2) (.slice Ao38 t330.length co38)) (fun _ h_ => h_.1))) (Kd.R_base ho0) hb); have n3_ := Aside0.mk (Kd.V_elder' (by (with_reducible repeat (first | apply Kd.V_alloc | apply Kd.V_drewN | apply Kd.V_drew)); exact (Kd.V_mono (Kd.V_far (p := ⟨gb333, 2, none⟩) (Kd.V_far (p := ⟨gb333, 1, none⟩) (Kd.V_far (p := ⟨gb333, 0, none⟩) (Kd.V_mono HO323.out (fun k_ hk => (⟨hk, hk.2⟩ : _ ∧ k_ ≠ gb333))) (fun _ hk => hk.2) (.int .i64 t326)) (fun _ hk => hk.2) (.slice Ao37 t327.length co37)) (fun _ hk => hk.2) (.slice Ao38 t330.length co38)) (fun _ h_ => h_.1))) (Kd.R_base ho0) hb); have n4_ := Aside0.mk (Kd.R_below (by (with_reducible repeat (first | apply Kd.R_alloc | apply Kd.R_drewN | apply Kd.R_drew)); exact (Kd.R_mono (Kd.R_far (p := ⟨gb333, 2, none⟩) (Kd.R_far (p := ⟨gb333, 1, none⟩) (Kd.R_far (p := ⟨gb333, 0, none⟩) (Kd.R_types HO329.out BK333.out (by decide)) (fun _ hk => hk.2) (.int .i64 t326)) (fun _ hk => hk.2) (.slice Ao37 t327.length co37)) (fun _ hk => hk.2) (.slice Ao38 t330.length co38)) (fun _ h_ => h_.1))) hb); have n5_ := Aside0.mk (Kd.R_below (by (with_reducible repeat (first | apply Kd.R_alloc | apply Kd.R_drewN | apply Kd.R_drew)); exact (Kd.R_mono (Kd.R_far (p := ⟨gb333, 2, none⟩) (Kd.R_far (p := ⟨gb333, 1, none⟩) (Kd.R_far (p := ⟨gb333, 0, none⟩) (Kd.R_types HO332.out BK333.out (by decide)) (fun _ hk => hk.2) (.int .i64 t326)) (fun _ hk => hk.2) (.slice Ao37 t327.length co37)) (fun _ hk => hk.2) (.slice Ao38 t330.length co38)) (fun _ h_ => h_.1))) hb); have n6_ := Aside0.mk (Kd.R_lower (Kd.R_new' ho0 (Kd.R_lt (by (with_reducible repeat (first | apply Kd.R_alloc | apply Kd.R_drewN | apply Kd.R_drew)); exact (Kd.R_mono (Kd.R_far (p := ⟨gb333, 2, none⟩) (Kd.R_far (p := ⟨gb333, 1, none⟩) (Kd.R_far (p := ⟨gb333, 0, none⟩) (Kd.R_types HO319.out BK333.out (by decide)) (fun _ hk => hk.2) (.int .i64 t326)) (fun _ hk => hk.2) (.slice Ao37 t327.length co37)) (fun _ hk => hk.2) (.slice Ao38 t330.length co38)) (fun _ h_ => h_.1))))) (below_size (qB))); have n7_ := Aside0.mk (blk_below (g := gb308) (o := .cells #[.int .i64 a0_0, .slice A0_1 l0_1.length c0_1, .slice A0_2 l0_2.length c0_2] 25 (0, 0)) (qF BK308.out) hb); have n8_ := Aside0.mk (blk_below (g := gb325) (o := .cells #[.int .i64 t320, .slice Ao30 t321.length co30] 30 (0, 0)) (qF BK325.out) hb); have n9_ := Aside0.mk (blk_below (g := gb333) (o := .cells #[.int .i64 t326, .slice Ao37 t327.length co37, .slice Ao38 t330.length co38] 35 (0, 0)) (by (with_reducible repeat (first | refine blk_drewN ?_ _ | refine blk_drew ?_ | refine blk_alloc ?_ _)); refine blk_put (cs := #[.int .i64 t326, .slice Ao37 t327.length co37, .slice none 0 0]) ?_ 2 _ rfl; refine blk_put (cs := #[.int .i64 t326, .slice none 0 0, .slice none 0 0]) ?_ 1 _ rfl; refine blk_put (cs := #[.int .i64 0, .slice none 0 0, .slice none 0 0]) ?_ 0 _ rfl; exact qK BK333.out) hb); have n10_ := Aside0.mk (below_step (qB) hb); clear HO313; clear HO316; clear HO319; clear HO323; clear HO329; clear HO332; clear BK308; clear BK325; clear BK333; clear HB; have HO313 := n0_; have HO316 := n1_; have HO319 := n2_; have HO323 := n3_; have HO329 := n4_; have HO332 := n5_; have HO336 := n6_; have BK308 := n7_; have BK325 := n8_; have BK333 := n9_; have HB := n10_; clear n0_ n1_ n2_ n3_ n4_ n5_ n6_ n7_ n8_ n9_ n10_; (try clear hb); (try clear hb2); (try clear hk); (try clear hi); (try clear ho0); have hcz40_0 : w39.cell? ⟨gb333, 0, none⟩ = some (.int .i64 t326) := (blk_cell BK333.out 0).trans rfl; have hcz40_1 : w39.cell? ⟨gb333, 1, none⟩ = some (.slice Ao37 t327.length co37) := (blk_cell BK333.out 1).trans rfl; have hcz40_2 : w39.cell? ⟨gb333, 2, none⟩ = some (.slice Ao38 t330.length co38) := (blk_cell BK333.out 2).trans rfl; have hfz40_0 := blk_frozen BK333.out 0; have hfz40_1 := blk_frozen BK333.out 1; have hfz40_2 := blk_frozen BK333.out 2; obtain ⟨Ao41, co41, eo41⟩ := Kd.R_slice HO336.out; subst eo41) | ((with_reducible refine gate_callee (f := 8) rfl ?_); refine goesL_ (some 40) rfl rfl Try.func8 (by kernel_rfl) rfl #[.agg #[.int .i64 t326, .slice Ao37 t327.length co37, .slice Ao38 t330.length co38], .slice Ao41 t334.length co41] rfl qG ?_; (with_reducible refine (impl_CnfFor.calls k t326 _ _ t327 _ _ t330 _ _ t334 t337 t338 t341 _ ?side1 ?side2 ?side3 ?side4 ?side5 ?side6 A15.out).mono ?_); (case side1 => repeat (first | exact (Kd.R_reads' HO329.out).2.2 | (with_reducible refine Kd.C_alloc ?_ _) | (with_reducible refine Kd.C_drewN ?_ _) | (with_reducible refine Kd.C_drew ?_))); (case side2 => exact (Kd.R_reads' HO329.out).2.1); (case side3 => repeat (first | exact (Kd.R_reads' HO332.out).2.2 | (with_reducible refine Kd.C_alloc ?_ _) | (with_reducible refine Kd.C_drewN ?_ _) | (with_reducible refine Kd.C_drew ?_))); (case side4 => exact (Kd.R_reads' HO332.out).2.1); (case side5 => repeat (first | exact (Kd.R_reads' HO336.out).2.2 | (with_reducible refine Kd.C_alloc ?_ _) | (with_reducible refine Kd.C_drewN ?_ _) | (with_reducible refine Kd.C_drew ?_))); (case side6 => exact (Kd.R_reads' HO336.out).2.1); rintro e w42 ⟨v339, rfl, ho0, hb⟩; refine ⟨_, rfl, ?_⟩; obtain ⟨N0, hN0⟩ := sep_at hb; have n0_ := Aside0.mk (Kd.R_below (qR HO313.out) hb); have n1_ := Aside0.mk (Kd.R_below (qR HO316.out) hb); have n2_ := Aside0.mk (Kd.R_below (qR HO319.out) hb); have n3_ := Aside0.mk (V_elder_at (by (with_reducible repeat (first | apply Kd.V_alloc | apply Kd.V_drewN | apply Kd.V_drew)); exact HO323.out) (Kd.S_base ho0) hb hN0); have n4_ := Aside0.mk (Kd.R_below (qR HO329.out) hb); have n5_ := Aside0.mk (Kd.R_below (qR HO332.out) hb); have n6_ := Aside0.mk (Kd.R_below (qR HO336.out) hb); have n7_ := Aside0.mk (Kd.S_lower (S_new_at (Kd.S_new' ho0 (Kd.R_lt (qR HO316.out))) (Kd.R_lt (qR HO332.out)) hN0) (below_size (qB))); have n8_ := Aside0.mk (blk_below (g := gb308) (o := .cells #[.int .i64 a0_0, .slice A0_1 l0_1.length c0_1, .slice A0_2 l0_2.length c0_2] 25 (0, 0)) (qK BK308.out) hb); have n9_ := Aside0.mk (blk_below (g := gb325) (o := .cells #[.int .i64 t320, .slice Ao30 t321.length co30] 30 (0, 0)) (qK BK325.out) hb); have n10_ := Aside0.mk (blk_below (g := gb333) (o := .cells #[.int .i64 t326, .slice Ao37 t327.length co37, .slice Ao38 t330.length co38] 35 (0, 0)) (qK BK333.out) hb); have n11_ := Aside0.mk (below_step (qB) hb); clear hN0; clear HO313; clear HO316; clear HO319; clear HO323; clear HO329; clear HO332; clear HO336; clear BK308; clear BK325; clear BK333; clear HB; have HO313 := n0_; have HO316 := n1_; have HO319 := n2_; have HO323 := n3_; have HO329 := n4_; have HO332 := n5_; have HO336 := n6_; have HO340 := n7_; have BK308 := n8_; have BK325 := n9_; have BK333 := n10_; have HB := n11_; clear n0_ n1_ n2_ n3_ n4_ n5_ n6_ n7_ n8_ n9_ n10_ n11_; (try clear hb); (try clear hb2); (try clear hk); (try clear hi); (try clear ho0)) | ((with_reducible refine gate_dst (N := 10) rfl ?_); refine box_event ?hg (N := 10) ?hd (cs := #[.int .i64 0, .slice none 0 0]) (t := 30) ?hr ?_; (case hd => rfl); (case hg => rfl); (case hr => first | (go_simp; done) | (go_simp; rfl)); intro gb342 hg w43 hbox hb; have n0_ := Aside0.mk (Kd.R_below (qR HO313.out) hb); have n1_ := Aside0.mk (Kd.R_below (qR HO316.out) hb); have n2_ := Aside0.mk (Kd.R_below (qR HO319.out) hb); have n3_ := Aside0.mk (Kd.V_below (Kd.V_elderB (by (with_reducible repeat (first | apply Kd.V_alloc | apply Kd.V_drewN | apply Kd.V_drew)); exact HO323.out) gb342 (Nat.le_of_eq hg.symm)) hb); have n4_ := Aside0.mk (Kd.R_below (qR HO329.out) hb); have n5_ := Aside0.mk (Kd.R_below (qR HO332.out) hb); have n6_ := Aside0.mk (Kd.R_below (qR HO336.out) hb); have n7_ := Aside0.mk (Kd.S_below (by (with_reducible repeat (first | apply Kd.S_alloc | apply Kd.S_drewN | apply Kd.S_drew)); exact HO340.out) hb); have n8_ := Aside0.mk (blk_below (g := gb308) (o := .cells #[.int .i64 a0_0, .slice A0_1 l0_1.length c0_1, .slice A0_2 l0_2.length c0_2] 25 (0, 0)) (qK BK308.out) hb); have n9_ := Aside0.mk (blk_below (g := gb325) (o := .cells #[.int .i64 t320, .slice Ao30 t321.length co30] 30 (0, 0)) (qK BK325.out) hb); have n10_ := Aside0.mk (blk_below (g := gb333) (o := .cells #[.int .i64 t326, .slice Ao37 t327.length co37, .slice Ao38 t330.length co38] 35 (0, 0)) (qK BK333.out) hb); have n11_ := Aside0.mk (below_step (qB) hb); have n12_ := Aside0.mk (hbox); have n13_ := Aside0.mk ((by rw [hg]; exact (below_size (qB)) : w.heap.size ≤ gb342)); have n14_ := Aside0.mk ((by rw [hg]; exact (below_size (qB)) : w.heap.size ≤ gb342)); have n15_ := Aside0.mk ((by rw [hg]; exact Nat.ne_of_lt (blk_lt (g := gb308) (o := .cells #[.int .i64 a0_0, .slice A0_1 l0_1.length c0_1, .slice A0_2 l0_2.length c0_2] 25 (0, 0)) (qK BK308.out)) : gb308 ≠ gb342)); have n16_ := Aside0.mk ((by rw [hg]; exact Nat.ne_of_gt (blk_lt (g := gb308) (o := .cells #[.int .i64 a0_0, .slice A0_1 l0_1.length c0_1, .slice A0_2 l0_2.length c0_2] 25 (0, 0)) (qK BK308.out)) : gb342 ≠ gb308)); have n17_ := Aside0.mk ((by rw [hg]; exact Nat.ne_of_lt (blk_lt (g := gb325) (o := .cells #[.int .i64 t320, .slice Ao30 t321.length co30] 30 (0, 0)) (qK BK325.out)) : gb325 ≠ gb342)); have n18_ := Aside0.mk ((by rw [hg]; exact Nat.ne_of_gt (blk_lt (g := gb325) (o := .cells #[.int .i64 t320, .slice Ao30 t321.length co30] 30 (0, 0)) (qK BK325.out)) : gb342 ≠ gb325)); have n19_ := Aside0.mk ((by rw [hg]; exact Nat.ne_of_lt (blk_lt (g := gb333) (o := .cells #[.int .i64 t326, .slice Ao37 t327.length co37, .slice Ao38 t330.length co38] 35 (0, 0)) (qK BK333.out)) : gb333 ≠ gb342)); have n20_ := Aside0.mk ((by rw [hg]; exact Nat.ne_of_gt (blk_lt (g := gb333) (o := .cells #[.int .i64 t326, .slice Ao37 t327.length co37, .slice Ao38 t330.length co38] 35 (0, 0)) (qK BK333.out)) : gb342 ≠ gb333)); clear HO313; clear HO316; clear HO319; clear HO323; clear HO329; clear HO332; clear HO336; clear HO340; clear BK308; clear BK325; clear BK333; clear HB; have HO313 := n0_; have HO316 := n1_; have HO319 := n2_; have HO323 := n3_; have HO329 := n4_; have HO332 := n5_; have HO336 := n6_; have HO340 := n7_; have BK308 := n8_; have BK325 := n9_; have BK333 := n10_; have HB := n11_; have BK342 := n12_; have GW342 := n13_; have GE342 := n14_; have NB308_342 := n15_; have NB342_308 := n16_; have NB325_342 := n17_; have NB342_325 := n18_; have NB333_342 := n19_; have NB342_333 := n20_; clear n0_ n1_ n2_ n3_ n4_ n5_ n6_ n7_ n8_ n9_ n10_ n11_ n12_ n13_ n14_ n15_ n16_ n17_ n18_ n19_ n20_; clear hb hbox hg; have hnb44 := NB342_308.out; have hnc44 := NB308_342.out; have hnb45 := NB342_325.out; have hnc45 := NB325_342.out; have hnb46 := NB342_333.out; have hnc46 := NB333_342.out; have hcz47_0 : w43.cell? ⟨gb342, 0, none⟩ = some (.int .i64 0) := (blk_cell BK342.out 0).trans rfl; have hcz47_1 : w43.cell? ⟨gb342, 1, none⟩ = some (.slice none 0 0) := (blk_cell BK342.out 1).trans rfl; have hfz47_0 := blk_frozen BK342.out 0; have hfz47_1 := blk_frozen BK342.out 1; obtain ⟨Ao48, co48, eo48⟩ := Kd.S_slice HO340.out; subst eo48))
   (try simp only [Act.put, List.setIfInBounds_toArray, List.set_cons_zero, List.set_cons_succ])
   go_cut [51] (fun v51 wc => ∃ (kq : Nat) (x51_15 : Bool), v51 = .bool x51_15 ∧ Aside0 (laws_FnExactCnfFor.j0 kq l1 t324 t334 t341 x51_15 a0_0 l0_1 l0_2 t320 t321 t326 t327 t330 t337 t338 = some true) ∧ Aside0 (kq ≤ k) ∧ Aside0 (Kd.R Kd.bool 4 wc w.heap.size (fun _ => True) (.slice Ao41 t334.length co41) t334) ∧ Aside0 (Kd.V (Kd.slice 3 (Kd.int .i64)) 23 wc w.heap.size (fun k_ => some k_ ≠ ((.slice Ao41 t334.length co41) : Value).ownBlock ∧ some k_ ≠ ((.slice Ao37 t327.length co37) : Value).ownBlock ∧ some k_ ≠ ((.slice Ao38 t330.length co38) : Value).ownBlock ∧ (some k_ ≠ ((.slice Ao48 t338.length co48) : Value).ownBlock ∧ k_ < N0) ∧ k_ ≠ gb308 ∧ k_ ≠ gb325 ∧ k_ ≠ gb333 ∧ k_ ≠ gb342) (.slice Ao30 t321.length co30) t321) ∧ Aside0 (Kd.R k54 54 wc w.heap.size (fun _ => True) (.slice Ao37 t327.length co37) t327) ∧ Aside0 (Kd.R (Kd.int .i64) 3 wc w.heap.size (fun _ => True) (.slice Ao38 t330.length co38) t330) ∧ Aside0 (Kd.S (Kd.slice 3 (Kd.int .i64)) 23 wc w.heap.size (fun k_ => (some k_ ≠ ((.slice Ao38 t330.length co38) : Value).ownBlock ∧ N0 ≤ k_)) (.slice Ao48 t338.length co48) t338) ∧ Aside0 (wc.heap[gb308]? = some (.cells #[.int .i64 a0_0, (.slice A0_1 l0_1.length c0_1), (.slice A0_2 l0_2.length c0_2)] 25 (0, 0))) ∧ Aside0 (wc.heap[gb325]? = some (.cells #[.int .i64 t320, (.slice Ao30 t321.length co30)] 30 (0, 0))) ∧ Aside0 (wc.heap[gb333]? = some (.cells #[.int .i64 t326, (.slice Ao37 t327.length co37), (.slice Ao38 t330.length co38)] 35 (0, 0))) ∧ Aside0 (wc.heap[gb342]? = some (.cells #[.int .i64 t337, (.slice Ao48 t338.length co48)] 30 (0, 0))) ∧ Aside0 (Below w.heap.size w wc))
   case first =>
    have H := HC16.out
    clear HC16
    replace H := Option.bind_eq_some_iff.mp H
    obtain ⟨t343, A490, H⟩ := H
    replace H : (if t343 = true then (laws_FnExactCnfFor.j0 k l1 t324 t334 t341 (t341 != t324) a0_0 l0_1 l0_2 t320 t321 t326 t327 t330 t337 t338) else (laws_FnExactCnfFor.j0 k l1 t324 t334 t341 true a0_0 l0_1 l0_2 t320 t321 t326 t327 t330 t337 t338)) = some true := H
    have A49 := Aside0.mk A490
    clear A490
    by_cases c50 : t343 = true
    ·subst c50
     have H1 : (laws_FnExactCnfFor.j0 k l1 t324 t334 t341 (t341 != t324) a0_0 l0_1 l0_2 t320 t321 t326 t327 t330 t337 t338) = some true := by rw [if_pos rfl] at H; exact H
     clear H
     have H := H1
     clear H1
     have H' := Aside0.mk H
     clear H
     have hnb51 := NB342_308.out
     have hnc51 := NB308_342.out
     have hnb52 := NB342_325.out
     have hnc52 := NB325_342.out
     have hnb53 := NB342_333.out
     have hnc53 := NB333_342.out
     have hcz54_0 : w43.cell? ⟨gb342, 0, none⟩ = some (.int .i64 0) := (blk_cell BK342.out 0).trans rfl
     have hcz54_1 : w43.cell? ⟨gb342, 1, none⟩ = some (.slice none 0 0) := (blk_cell BK342.out 1).trans rfl
     have hfz54_0 := blk_frozen BK342.out 0
     have hfz54_1 := blk_frozen BK342.out 1
     have hnb55 := NB325_308.out
     have hnc55 := NB308_325.out
     have hnb56 := NB325_333.out
     have hnc56 := NB333_325.out
     have hcz57_0 : w43.cell? ⟨gb325, 0, none⟩ = some (.int .i64 t320) := (blk_cell BK325.out 0).trans rfl
     have hcz57_1 : w43.cell? ⟨gb325, 1, none⟩ = some (.slice Ao30 t321.length co30) := (blk_cell BK325.out 1).trans rfl
     have hfz57_0 := blk_frozen BK325.out 0
     have hfz57_1 := blk_frozen BK325.out 1
     go_wp2_with (first | ((with_reducible refine gate_callee (f := 9) rfl ?_); refine goesL_ (some 45) rfl rfl Try.func9 (by kernel_rfl) rfl #[.agg #[.int .i64 t337, .slice Ao48 t338.length co48], .agg #[.int .i64 t320, .slice Ao30 t321.length co30]] rfl qG ?_; (with_reducible refine (laws_eqCnf.calls k t337 _ _ t338 t320 _ _ t321 true _ ?side1 ?side2 ?side3 ?side4 A49.out).mono ?_); (case side1 => refine (Kd.S_reads' (e := 23) (base := w.heap.size) (ok := fun k_ => ((True ∧ some k_ ≠ (.slice Ao24 t314.length co24 : Value).ownBlock) ∧ (some k_ ≠ (.slice Ao38 t330.length co38 : Value).ownBlock ∧ N0 ≤ k_))) (n := t338.length) (c := co48) ?_).2.2; exact (by (with_reducible repeat (first | apply Kd.S_alloc | apply Kd.S_drewN | apply Kd.S_drew)); exact (Kd.S_mono (Kd.S_far (p := ⟨gb342, 1, none⟩) (Kd.S_far (p := ⟨gb342, 0, none⟩) (Kd.S_types HO340.out BK342.out (by decide)) (fun _ hk => hk.2) (.int .i64 t337)) (fun _ hk => hk.2) (.slice Ao48 t338.length co48)) (fun _ h_ => h_.1)))); (case side2 => exact (Kd.S_reads' HO340.out).2.1); (case side3 => refine (Kd.V_reads' (e := 23) (base := w.heap.size) (ok := fun k_ => ((((((((some k_ ≠ (.slice Ao23 t311.length co23 : Value).ownBlock ∧ (some k_ ≠ (.slice Ao24 t314.length co24 : Value).ownBlock ∧ (some k_ ≠ (.slice Ao25 t317.length co25 : Value).ownBlock ∧ k_ ≠ gb308))) ∧ k_ ≠ gb325) ∧ some k_ ≠ (.slice Ao37 t327.length co37 : Value).ownBlock) ∧ some k_ ≠ (.slice Ao38 t330.length co38 : Value).ownBlock) ∧ k_ ≠ gb333) ∧ some k_ ≠ (.slice Ao41 t334.length co41 : Value).ownBlock) ∧ (some k_ ≠ (.slice Ao48 t338.length co48 : Value).ownBlock ∧ k_ < N0)) ∧ k_ ≠ gb342)) (n := t321.length) (c := co30) ?_).2.2; exact (by (with_reducible repeat (first | apply Kd.V_alloc | apply Kd.V_drewN | apply Kd.V_drew)); exact (Kd.V_mono (Kd.V_far (p := ⟨gb342, 1, none⟩) (Kd.V_far (p := ⟨gb342, 0, none⟩) (Kd.V_mono HO323.out (fun k_ hk => (⟨hk, hk.2⟩ : _ ∧ k_ ≠ gb342))) (fun _ hk => hk.2) (.int .i64 t337)) (fun _ hk => hk.2) (.slice Ao48 t338.length co48)) (fun _ h_ => h_.1)))); (case side4 => exact (Kd.V_reads' HO323.out).2.1); rintro e w58 ⟨rfl, hb⟩; refine ⟨_, rfl, ?_⟩; have n0_ := Aside0.mk (Kd.R_below (by (with_reducible repeat (first | apply Kd.R_alloc | apply Kd.R_drewN | apply Kd.R_drew)); exact (Kd.R_mono (Kd.R_far (p := ⟨gb342, 1, none⟩) (Kd.R_far (p := ⟨gb342, 0, none⟩) (Kd.R_types HO313.out BK342.out (by decide)) (fun _ hk => hk.2) (.int .i64 t337)) (fun _ hk => hk.2) (.slice Ao48 t338.length co48)) (fun _ h_ => h_.1))) hb); have n1_ := Aside0.mk (Kd.R_below (by (with_reducible repeat (first | apply Kd.R_alloc | apply Kd.R_drewN | apply Kd.R_drew)); exact (Kd.R_mono (Kd.R_far (p := ⟨gb342, 1, none⟩) (Kd.R_far (p := ⟨gb342, 0, none⟩) (Kd.R_types HO316.out BK342.out (by decide)) (fun _ hk => hk.2) (.int .i64 t337)) (fun _ hk => hk.2) (.slice Ao48 t338.length co48)) (fun _ h_ => h_.1))) hb); have n2_ := Aside0.mk (Kd.R_below (by (with_reducible repeat (first | apply Kd.R_alloc | apply Kd.R_drewN | apply Kd.R_drew)); exact (Kd.R_mono (Kd.R_far (p := ⟨gb342, 1, none⟩) (Kd.R_far (p := ⟨gb342, 0, none⟩) (Kd.R_types HO319.out BK342.out (by decide)) (fun _ hk => hk.2) (.int .i64 t337)) (fun _ hk => hk.2) (.slice Ao48 t338.length co48)) (fun _ h_ => h_.1))) hb); have n3_ := Aside0.mk (Kd.V_below (by (with_reducible repeat (first | apply Kd.V_alloc | apply Kd.V_drewN | apply Kd.V_drew)); exact (Kd.V_mono (Kd.V_far (p := ⟨gb342, 1, none⟩) (Kd.V_far (p := ⟨gb342, 0, none⟩) (Kd.V_mono HO323.out (fun k_ hk => (⟨hk, hk.2⟩ : _ ∧ k_ ≠ gb342))) (fun _ hk => hk.2) (.int .i64 t337)) (fun _ hk => hk.2) (.slice Ao48 t338.length co48)) (fun _ h_ => h_.1))) hb); have n4_ := Aside0.mk (Kd.R_below (by (with_reducible repeat (first | apply Kd.R_alloc | apply Kd.R_drewN | apply Kd.R_drew)); exact (Kd.R_mono (Kd.R_far (p := ⟨gb342, 1, none⟩) (Kd.R_far (p := ⟨gb342, 0, none⟩) (Kd.R_types HO329.out BK342.out (by decide)) (fun _ hk => hk.2) (.int .i64 t337)) (fun _ hk => hk.2) (.slice Ao48 t338.length co48)) (fun _ h_ => h_.1))) hb); have n5_ := Aside0.mk (Kd.R_below (by (with_reducible repeat (first | apply Kd.R_alloc | apply Kd.R_drewN | apply Kd.R_drew)); exact (Kd.R_mono (Kd.R_far (p := ⟨gb342, 1, none⟩) (Kd.R_far (p := ⟨gb342, 0, none⟩) (Kd.R_types HO332.out BK342.out (by decide)) (fun _ hk => hk.2) (.int .i64 t337)) (fun _ hk => hk.2) (.slice Ao48 t338.length co48)) (fun _ h_ => h_.1))) hb); have n6_ := Aside0.mk (Kd.R_below (by (with_reducible repeat (first | apply Kd.R_alloc | apply Kd.R_drewN | apply Kd.R_drew)); exact (Kd.R_mono (Kd.R_far (p := ⟨gb342, 1, none⟩) (Kd.R_far (p := ⟨gb342, 0, none⟩) (Kd.R_types HO336.out BK342.out (by decide)) (fun _ hk => hk.2) (.int .i64 t337)) (fun _ hk => hk.2) (.slice Ao48 t338.length co48)) (fun _ h_ => h_.1))) hb); have n7_ := Aside0.mk (Kd.S_below (by (with_reducible repeat (first | apply Kd.S_alloc | apply Kd.S_drewN | apply Kd.S_drew)); exact (Kd.S_mono (Kd.S_far (p := ⟨gb342, 1, none⟩) (Kd.S_far (p := ⟨gb342, 0, none⟩) (Kd.S_types HO340.out BK342.out (by decide)) (fun _ hk => hk.2) (.int .i64 t337)) (fun _ hk => hk.2) (.slice Ao48 t338.length co48)) (fun _ h_ => h_.1))) hb); have n8_ := Aside0.mk (blk_below (g := gb308) (o := .cells #[.int .i64 a0_0, .slice A0_1 l0_1.length c0_1, .slice A0_2 l0_2.length c0_2] 25 (0, 0)) (qF BK308.out) hb); have n9_ := Aside0.mk (blk_below (g := gb325) (o := .cells #[.int .i64 t320, .slice Ao30 t321.length co30] 30 (0, 0)) (qF BK325.out) hb); have n10_ := Aside0.mk (blk_below (g := gb333) (o := .cells #[.int .i64 t326, .slice Ao37 t327.length co37, .slice Ao38 t330.length co38] 35 (0, 0)) (qF BK333.out) hb); have n11_ := Aside0.mk (blk_below (g := gb342) (o := .cells #[.int .i64 t337, .slice Ao48 t338.length co48] 30 (0, 0)) (by (with_reducible repeat (first | refine blk_drewN ?_ _ | refine blk_drew ?_ | refine blk_alloc ?_ _)); refine blk_put (cs := #[.int .i64 t337, .slice none 0 0]) ?_ 1 _ rfl; refine blk_put (cs := #[.int .i64 0, .slice none 0 0]) ?_ 0 _ rfl; exact qK BK342.out) hb); have n12_ := Aside0.mk (below_step (qB) hb); clear HO313; clear HO316; clear HO319; clear HO323; clear HO329; clear HO332; clear HO336; clear HO340; clear BK308; clear BK325; clear BK333; clear BK342; clear HB; have HO313 := n0_; have HO316 := n1_; have HO319 := n2_; have HO323 := n3_; have HO329 := n4_; have HO332 := n5_; have HO336 := n6_; have HO340 := n7_; have BK308 := n8_; have BK325 := n9_; have BK333 := n10_; have BK342 := n11_; have HB := n12_; clear n0_ n1_ n2_ n3_ n4_ n5_ n6_ n7_ n8_ n9_ n10_ n11_ n12_; (try clear hb); (try clear hb2); (try clear hk); (try clear hi)))
     go_meet
     case rel => exact ⟨_, ((t341 != t324)), qS, H', ⟨by first | omega | exact Nat.le_refl _⟩, ⟨by (with_reducible repeat (first | apply Kd.R_alloc | apply Kd.R_drewN | apply Kd.R_drew)); exact Kd.R_mono HO336.out (fun _ hk => trivial)⟩, ⟨by (with_reducible repeat (first | apply Kd.V_alloc | apply Kd.V_drewN | apply Kd.V_drew)); exact Kd.V_mono HO323.out (fun _ hk => ⟨hk.1.1.2, ⟨hk.1.1.1.1.1.2, ⟨hk.1.1.1.1.2, ⟨hk.1.2, ⟨hk.1.1.1.1.1.1.1.2.2.2, ⟨hk.1.1.1.1.1.1.2, ⟨hk.1.1.1.2, hk.2⟩⟩⟩⟩⟩⟩⟩)⟩, ⟨by (with_reducible repeat (first | apply Kd.R_alloc | apply Kd.R_drewN | apply Kd.R_drew)); exact Kd.R_mono HO329.out (fun _ hk => trivial)⟩, ⟨by (with_reducible repeat (first | apply Kd.R_alloc | apply Kd.R_drewN | apply Kd.R_drew)); exact Kd.R_mono HO332.out (fun _ hk => trivial)⟩, ⟨by (with_reducible repeat (first | apply Kd.S_alloc | apply Kd.S_drewN | apply Kd.S_drew)); exact Kd.S_mono HO340.out (fun _ hk => hk.2)⟩, ⟨by exact qK BK308.out⟩, ⟨by exact qK BK325.out⟩, ⟨by exact qK BK333.out⟩, ⟨by exact qK BK342.out⟩, ⟨qB⟩⟩
    ·replace c50 := Bool.eq_false_iff.mpr c50
     subst c50
     have H1 : (laws_FnExactCnfFor.j0 k l1 t324 t334 t341 true a0_0 l0_1 l0_2 t320 t321 t326 t327 t330 t337 t338) = some true := by rw [if_neg (show ¬ (false = true) by decide)] at H; exact H
     exact absurd H1 (by cases k <;> simp [laws_FnExactCnfFor.j0])
   case rest =>
    clear HC16
    try clear c1
    try clear c2
    try clear p2
    try clear c3
    try clear c3b0
    try clear c3b1
    try clear c4
    try clear c5
    try clear c6
    try clear c6b0
    try clear c7
    try clear c8
    try clear c9
    try clear c28
    try clear c34
    try clear c35
    try clear c44
    try clear c45
    try clear c46
    try clear c50
    try clear c51
    try clear c52
    try clear c53
    try clear c55
    try clear c56
    try clear c59
    try clear c60
    try clear c61
    try clear c63
    try clear c64
    try clear hcz18_0
    try clear hcz18_1
    try clear hcz18_2
    try clear hcz20_0
    try clear hcz20_1
    try clear hcz20_2
    try clear hcz29_0
    try clear hcz29_1
    try clear hcz31_0
    try clear hcz31_1
    try clear hcz31_2
    try clear hcz36_0
    try clear hcz36_1
    try clear hcz36_2
    try clear hcz40_0
    try clear hcz40_1
    try clear hcz40_2
    try clear hcz47_0
    try clear hcz47_1
    try clear hcz54_0
    try clear hcz54_1
    try clear hcz57_0
    try clear hcz57_1
    try clear hcz62_0
    try clear hcz62_1
    try clear hcz65_0
    try clear hcz65_1
    try clear hcz8_0
    try clear hcz8_1
    try clear hcz8_2
    try clear hfz18_0
    try clear hfz18_1
    try clear hfz18_2
    try clear hfz20_0
    try clear hfz20_1
    try clear hfz20_2
    try clear hfz29_0
    try clear hfz29_1
    try clear hfz31_0
    try clear hfz31_1
    try clear hfz31_2
    try clear hfz36_0
    try clear hfz36_1
    try clear hfz36_2
    try clear hfz40_0
    try clear hfz40_1
    try clear hfz40_2
    try clear hfz47_0
    try clear hfz47_1
    try clear hfz54_0
    try clear hfz54_1
    try clear hfz57_0
    try clear hfz57_1
    try clear hfz62_0
    try clear hfz62_1
    try clear hfz65_0
    try clear hfz65_1
    try clear hfz8_0
    try clear hfz8_1
    try clear hfz8_2
    obtain ⟨kq, x51_15, rfl, HA, HJ15, HO_9, HO_326001, HO_334001, HO_334002, HO_343001, BK308, BK325, BK333, BK342, HB⟩ := hcut
    cases kq with
    | zero => exact absurd HA.out (by simp [laws_FnExactCnfFor.j0])
    | succ kj15 =>
     have H := HA.out
     clear HA
     simp only [laws_FnExactCnfFor.j0] at H
     by_cases c67 : x51_15 = true
     ·subst c67
      have H1 : (some false) = some true := by rw [if_pos rfl] at H; exact H
      exact absurd H1 (by simp)
     ·replace c67 := Bool.eq_false_iff.mpr c67
      subst c67
      have H1 : ((laws_toCircuit.f kj15 a0_0 l0_1 l0_2).bind fun bt344 => ((laws_eqCircuit.f kj15 t326 t327 t330 bt344.1 bt344.2.1 bt344.2.2).bind fun t351 => (if t351 = true then ((laws_toBoolS.f kj15 l1).bind fun t352 => ((laws_eqBoolS.f kj15 t334 t352).bind fun t355 => (if t355 = true then ((laws_markCircuit.f kj15 t326 t327 t330 1).bind fun bt356 => ((laws_markBoolS.f kj15 t334 bt356.1).bind fun bt359 => (if bt359.1 < 0 then (laws_FnExactCnfFor.j1 kj15 l1 t324 true a0_0 l0_1 l0_2 t320 t321 t337 t338) else ((laws_eqCnf.f kj15 t337 t338 t320 t321).bind fun t361 => (if t361 = true then (laws_FnExactCnfFor.j1 kj15 l1 t324 (t341 != t324) a0_0 l0_1 l0_2 t320 t321 t337 t338) else (laws_FnExactCnfFor.j1 kj15 l1 t324 true a0_0 l0_1 l0_2 t320 t321 t337 t338)))))) else (some false)))) else (some false)))) = some true := by rw [if_neg (show ¬ (false = true) by decide)] at H; exact H
      clear H
      have H := H1
      clear H1
      replace H := Option.bind_eq_some_iff.mp H
      obtain ⟨⟨t344, t345, t348⟩, A680, H⟩ := H
      replace H : ((laws_eqCircuit.f kj15 t326 t327 t330 t344 t345 t348).bind fun t351 => (if t351 = true then ((laws_toBoolS.f kj15 l1).bind fun t352 => ((laws_eqBoolS.f kj15 t334 t352).bind fun t355 => (if t355 = true then ((laws_markCircuit.f kj15 t326 t327 t330 1).bind fun bt356 => ((laws_markBoolS.f kj15 t334 bt356.1).bind fun bt359 => (if bt359.1 < 0 then (laws_FnExactCnfFor.j1 kj15 l1 t324 true a0_0 l0_1 l0_2 t320 t321 t337 t338) else ((laws_eqCnf.f kj15 t337 t338 t320 t321).bind fun t361 => (if t361 = true then (laws_FnExactCnfFor.j1 kj15 l1 t324 (t341 != t324) a0_0 l0_1 l0_2 t320 t321 t337 t338) else (laws_FnExactCnfFor.j1 kj15 l1 t324 true a0_0 l0_1 l0_2 t320 t321 t337 t338)))))) else (some false)))) else (some false))) = some true := H
      have A68 := Aside0.mk A680
      clear A680
      replace H := Option.bind_eq_some_iff.mp H
      obtain ⟨t351, A690, H⟩ := H
      replace H : (if t351 = true then ((laws_toBoolS.f kj15 l1).bind fun t352 => ((laws_eqBoolS.f kj15 t334 t352).bind fun t355 => (if t355 = true then ((laws_markCircuit.f kj15 t326 t327 t330 1).bind fun bt356 => ((laws_markBoolS.f kj15 t334 bt356.1).bind fun bt359 => (if bt359.1 < 0 then (laws_FnExactCnfFor.j1 kj15 l1 t324 true a0_0 l0_1 l0_2 t320 t321 t337 t338) else ((laws_eqCnf.f kj15 t337 t338 t320 t321).bind fun t361 => (if t361 = true then (laws_FnExactCnfFor.j1 kj15 l1 t324 (t341 != t324) a0_0 l0_1 l0_2 t320 t321 t337 t338) else (laws_FnExactCnfFor.j1 kj15 l1 t324 true a0_0 l0_1 l0_2 t320 t321 t337 t338)))))) else (some false)))) else (some false)) = some true := H
      have A69 := Aside0.mk A690
      clear A690
      by_cases c70 : t351 = true
      ·subst c70
       have H1 : ((laws_toBoolS.f kj15 l1).bind fun t352 => ((laws_eqBoolS.f kj15 t334 t352).bind fun t355 => (if t355 = true then ((laws_markCircuit.f kj15 t326 t327 t330 1).bind fun bt356 => ((laws_markBoolS.f kj15 t334 bt356.1).bind fun bt359 => (if bt359.1 < 0 then (laws_FnExactCnfFor.j1 kj15 l1 t324 true a0_0 l0_1 l0_2 t320 t321 t337 t338) else ((laws_eqCnf.f kj15 t337 t338 t320 t321).bind fun t361 => (if t361 = true then (laws_FnExactCnfFor.j1 kj15 l1 t324 (t341 != t324) a0_0 l0_1 l0_2 t320 t321 t337 t338) else (laws_FnExactCnfFor.j1 kj15 l1 t324 true a0_0 l0_1 l0_2 t320 t321 t337 t338)))))) else (some false)))) = some true := by rw [if_pos rfl] at H; exact H
       clear H
       have H := H1
       clear H1
       replace H := Option.bind_eq_some_iff.mp H
       obtain ⟨t352, A710, H⟩ := H
       replace H : ((laws_eqBoolS.f kj15 t334 t352).bind fun t355 => (if t355 = true then ((laws_markCircuit.f kj15 t326 t327 t330 1).bind fun bt356 => ((laws_markBoolS.f kj15 t334 bt356.1).bind fun bt359 => (if bt359.1 < 0 then (laws_FnExactCnfFor.j1 kj15 l1 t324 true a0_0 l0_1 l0_2 t320 t321 t337 t338) else ((laws_eqCnf.f kj15 t337 t338 t320 t321).bind fun t361 => (if t361 = true then (laws_FnExactCnfFor.j1 kj15 l1 t324 (t341 != t324) a0_0 l0_1 l0_2 t320 t321 t337 t338) else (laws_FnExactCnfFor.j1 kj15 l1 t324 true a0_0 l0_1 l0_2 t320 t321 t337 t338)))))) else (some false))) = some true := H
       have A71 := Aside0.mk A710
       clear A710
       replace H := Option.bind_eq_some_iff.mp H
       obtain ⟨t355, A720, H⟩ := H
       replace H : (if t355 = true then ((laws_markCircuit.f kj15 t326 t327 t330 1).bind fun bt356 => ((laws_markBoolS.f kj15 t334 bt356.1).bind fun bt359 => (if bt359.1 < 0 then (laws_FnExactCnfFor.j1 kj15 l1 t324 true a0_0 l0_1 l0_2 t320 t321 t337 t338) else ((laws_eqCnf.f kj15 t337 t338 t320 t321).bind fun t361 => (if t361 = true then (laws_FnExactCnfFor.j1 kj15 l1 t324 (t341 != t324) a0_0 l0_1 l0_2 t320 t321 t337 t338) else (laws_FnExactCnfFor.j1 kj15 l1 t324 true a0_0 l0_1 l0_2 t320 t321 t337 t338)))))) else (some false)) = some true := H
       have A72 := Aside0.mk A720
       clear A720
       by_cases c73 : t355 = true
       ·subst c73
        have H1 : ((laws_markCircuit.f kj15 t326 t327 t330 1).bind fun bt356 => ((laws_markBoolS.f kj15 t334 bt356.1).bind fun bt359 => (if bt359.1 < 0 then (laws_FnExactCnfFor.j1 kj15 l1 t324 true a0_0 l0_1 l0_2 t320 t321 t337 t338) else ((laws_eqCnf.f kj15 t337 t338 t320 t321).bind fun t361 => (if t361 = true then (laws_FnExactCnfFor.j1 kj15 l1 t324 (t341 != t324) a0_0 l0_1 l0_2 t320 t321 t337 t338) else (laws_FnExactCnfFor.j1 kj15 l1 t324 true a0_0 l0_1 l0_2 t320 t321 t337 t338)))))) = some true := by rw [if_pos rfl] at H; exact H
        clear H
        have H := H1
        clear H1
        replace H := Option.bind_eq_some_iff.mp H
        obtain ⟨⟨t356, t357, t358⟩, A740, H⟩ := H
        replace H : ((laws_markBoolS.f kj15 t334 t356).bind fun bt359 => (if bt359.1 < 0 then (laws_FnExactCnfFor.j1 kj15 l1 t324 true a0_0 l0_1 l0_2 t320 t321 t337 t338) else ((laws_eqCnf.f kj15 t337 t338 t320 t321).bind fun t361 => (if t361 = true then (laws_FnExactCnfFor.j1 kj15 l1 t324 (t341 != t324) a0_0 l0_1 l0_2 t320 t321 t337 t338) else (laws_FnExactCnfFor.j1 kj15 l1 t324 true a0_0 l0_1 l0_2 t320 t321 t337 t338))))) = some true := H
        have A74 := Aside0.mk A740
        clear A740
        replace H := Option.bind_eq_some_iff.mp H
        obtain ⟨⟨t359, t360⟩, A750, H⟩ := H
        replace H : (if t359 < 0 then (laws_FnExactCnfFor.j1 kj15 l1 t324 true a0_0 l0_1 l0_2 t320 t321 t337 t338) else ((laws_eqCnf.f kj15 t337 t338 t320 t321).bind fun t361 => (if t361 = true then (laws_FnExactCnfFor.j1 kj15 l1 t324 (t341 != t324) a0_0 l0_1 l0_2 t320 t321 t337 t338) else (laws_FnExactCnfFor.j1 kj15 l1 t324 true a0_0 l0_1 l0_2 t320 t321 t337 t338)))) = some true := H
        have A75 := Aside0.mk A750
        clear A750
        have HC76 := Aside0.mk H
        clear H
        try go_wp2
        have n0_ := Aside0.mk (Kd.R_drew HO_9.out)
        have n1_ := Aside0.mk (Kd.V_drew HO_326001.out)
        have n2_ := Aside0.mk (Kd.R_drew HO_334001.out)
        have n3_ := Aside0.mk (Kd.R_drew HO_334002.out)
        have n4_ := Aside0.mk (Kd.S_drew HO_343001.out)
        have n5_ := Aside0.mk (blk_drew BK308.out)
        have n6_ := Aside0.mk (blk_drew BK325.out)
        have n7_ := Aside0.mk (blk_drew BK333.out)
        have n8_ := Aside0.mk (blk_drew BK342.out)
        have n9_ := Aside0.mk (below_drew1 HB.out)
        clear HO_9
        clear HO_326001
        clear HO_334001
        clear HO_334002
        clear HO_343001
        clear BK308
        clear BK325
        clear BK333
        clear BK342
        clear HB
        have HO_9 := n0_
        have HO_326001 := n1_
        have HO_334001 := n2_
        have HO_334002 := n3_
        have HO_343001 := n4_
        have BK308 := n5_
        have BK325 := n6_
        have BK333 := n7_
        have BK342 := n8_
        have HB := n9_
        clear n0_ n1_ n2_ n3_ n4_ n5_ n6_ n7_ n8_ n9_
        refine start_ (n := 5) (S := fun w' => w'.cell? ⟨gb333, 0, none⟩ = some (.int .i64 t326) ∧ w'.cell? ⟨gb333, 1, none⟩ = some (.slice Ao37 t327.length co37) ∧ w'.cell? ⟨gb333, 2, none⟩ = some (.slice Ao38 t330.length co38) ∧ w'.cell? ⟨gb308, 0, none⟩ = some (.int .i64 a0_0) ∧ w'.cell? ⟨gb308, 1, none⟩ = some (.slice A0_1 l0_1.length c0_1) ∧ w'.cell? ⟨gb308, 2, none⟩ = some (.slice A0_2 l0_2.length c0_2)) (ds := []) #[false, false, false, false, false] (by kernel_rfl) rfl rfl ⟨(blk_cell BK333.out 0).trans rfl, (blk_cell BK333.out 1).trans rfl, (blk_cell BK333.out 2).trans rfl, (blk_cell BK308.out 0).trans rfl, (blk_cell BK308.out 1).trans rfl, (blk_cell BK308.out 2).trans rfl⟩ (fun hHeld => ?_)
        generalize wc.drew = w77 at HO_9 HO_326001 HO_334001 HO_334002 HO_343001 BK308 BK325 BK333 BK342 HB hHeld ⊢
        refine take_ (i := 0) (N := some 52) (v := ?_) (a' := ?_) #[true, false, false, false, false] rfl rfl (by kernel_rfl) (fun _ _ _ h => h) (Or.inl ⟨by rfl, ?_⟩) hHeld ?_ ?_
        rotate_left
        ·rintro w' ⟨s0, s1, s2, s3, s4, s5⟩
         go_simp
         with_reducible rfl
        rotate_left
        ·simp only [Act.put, List.setIfInBounds_toArray, List.set_cons_zero, List.set_cons_succ, i64_w, i32_w]
         rfl
        refine take_ (i := 1) (N := some 53) (v := ?_) (a' := ?_) #[true, true, false, false, false] rfl rfl (by kernel_rfl) (fun _ _ _ h => h) (Or.inl ⟨by rfl, ?_⟩) hHeld ?_ ?_
        rotate_left
        ·rintro w' ⟨s0, s1, s2, s3, s4, s5⟩
         go_simp
         with_reducible rfl
        rotate_left
        ·simp only [Act.put, List.setIfInBounds_toArray, List.set_cons_zero, List.set_cons_succ, i64_w, i32_w]
         rfl
        refine one_ (i := 2) (N := some 54) #[true, true, true, false, false] rfl rfl (by kernel_rfl) (by decide) (fun K hK => ?_)
        refine goes_ Try.func6 (by kernel_rfl) rfl #[.agg #[.int .i64 a0_0, .slice A0_1 l0_1.length c0_1, .slice A0_2 l0_2.length c0_2]] (by rfl) rfl rfl qG ?_
        with_reducible refine (laws_toCircuit.calls kj15 a0_0 _ _ l0_1 _ _ l0_2 t344 t345 t348 _ ?side1 ?side2 ?side3 ?side4 A68.out).mono ?_
        (case side1 => exact qC (Kd.C_below HR0_1.out HB.out))
        (case side2 => exact HC0_1.out)
        (case side3 => exact qC (Kd.C_below HR0_2.out HB.out))
        (case side4 => exact HC0_2.out)
        rintro e w78 ⟨v346, v349, rfl, ho0, ho1, hb⟩
        refine ⟨_, rfl, ?_⟩
        have n0_ := Aside0.mk (Kd.R_below (qR HO_9.out) hb)
        have n1_ := Aside0.mk (Kd.V_mono (Kd.V_told (Kd.V_told (Kd.V_old (by (with_reducible repeat (first | apply Kd.V_alloc | apply Kd.V_drewN | apply Kd.V_drew)); exact HO_326001.out) hb) (Kd.R_base ho0)) (Kd.R_base ho1)) (fun _ h_ => h_.1))
        have n2_ := Aside0.mk (Kd.R_elder' (qR HO_334001.out) (Kd.R_base ho0) hb)
        have n3_ := Aside0.mk (Kd.R_elder' (qR HO_334002.out) (Kd.R_base ho1) hb)
        have n4_ := Aside0.mk (Kd.S_elder' (by (with_reducible repeat (first | apply Kd.S_alloc | apply Kd.S_drewN | apply Kd.S_drew)); exact HO_343001.out) (Kd.R_base ho1) hb)
        have n5_ := Aside0.mk (Kd.R_lower (Kd.R_new' ho0 (Kd.R_lt (qR HO_334001.out))) (below_size (qB)))
        have n6_ := Aside0.mk (Kd.R_lower (Kd.R_new' ho1 (Kd.R_lt (qR HO_334002.out))) (below_size (qB)))
        have n7_ := Aside0.mk (blk_below (g := gb308) (o := .cells #[.int .i64 a0_0, .slice A0_1 l0_1.length c0_1, .slice A0_2 l0_2.length c0_2] 25 (0, 0)) (qK BK308.out) hb)
        have n8_ := Aside0.mk (blk_below (g := gb325) (o := .cells #[.int .i64 t320, .slice Ao30 t321.length co30] 30 (0, 0)) (qK BK325.out) hb)
        have n9_ := Aside0.mk (blk_below (g := gb333) (o := .cells #[.int .i64 t326, .slice Ao37 t327.length co37, .slice Ao38 t330.length co38] 35 (0, 0)) (qK BK333.out) hb)
        have n10_ := Aside0.mk (blk_below (g := gb342) (o := .cells #[.int .i64 t337, .slice Ao48 t338.length co48] 30 (0, 0)) (qK BK342.out) hb)
        have n11_ := Aside0.mk (below_step (qB) hb)
        clear HO_9
        clear HO_326001
        clear HO_334001
        clear HO_334002
        clear HO_343001
        clear BK308
        clear BK325
        clear BK333
        clear BK342
        clear HB
        have HO_9 := n0_
        have HO_326001 := n1_
        have HO_334001 := n2_
        have HO_334002 := n3_
        have HO_343001 := n4_
        have HO347 := n5_
        have HO350 := n6_
        have BK308 := n7_
        have BK325 := n8_
        have BK333 := n9_
        have BK342 := n10_
        have HB := n11_
        clear n0_ n1_ n2_ n3_ n4_ n5_ n6_ n7_ n8_ n9_ n10_ n11_
        (try clear hb)
        (try clear hb2)
        (try clear hk)
        (try clear hi)
        (try clear ho0)
        (try clear ho1)
        obtain ⟨Ao79, co79, eo79⟩ := Kd.R_slice HO347.out
        (first | subst eo79 | (injection eo79 with f1_ f2_ f3_; have f4_ := f1_.symm; have f5_ := f3_.symm; clear f1_ f2_ f3_; subst f4_; subst f5_))
        obtain ⟨Ao80, co80, eo80⟩ := Kd.R_slice HO350.out
        (first | subst eo80 | (injection eo80 with f1_ f2_ f3_; have f4_ := f1_.symm; have f5_ := f3_.symm; clear f1_ f2_ f3_; subst f4_; subst f5_))
        refine hK.out _ _ ⟨(blk_cell BK333.out 0).trans rfl, (blk_cell BK333.out 1).trans rfl, (blk_cell BK333.out 2).trans rfl, (blk_cell BK308.out 0).trans rfl, (blk_cell BK308.out 1).trans rfl, (blk_cell BK308.out 2).trans rfl⟩ (fun hHeld => ?_)
        clear hK K
        refine norm_ (a' := ?_) ?_ ?_
        rotate_left
        ·show Act.put _ (some 54) _ = _
         simp only [Act.put, List.setIfInBounds_toArray, List.set_cons_zero, List.set_cons_succ, i64_w, i32_w]
         rfl
        refine one_ (i := 3) (N := some 55) #[true, true, true, true, false] rfl rfl (by kernel_rfl) (by decide) (fun K hK => ?_)
        refine goes_ Try.func10 (by kernel_rfl) rfl #[.agg #[.int .i64 t326, .slice Ao37 t327.length co37, .slice Ao38 t330.length co38], .agg #[.int .i64 t344, .slice Ao79 t345.length co79, .slice Ao80 t348.length co80]] (by rfl) rfl rfl qG ?_
        with_reducible refine (laws_eqCircuit.calls kj15 t326 _ _ t327 _ _ t330 t344 _ _ t345 _ _ t348 true _ ?side1 ?side2 ?side3 ?side4 ?side5 ?side6 ?side7 ?side8 A69.out).mono ?_
        (case side1 => repeat (first | exact (Kd.R_reads' HO_334001.out).2.2 | (with_reducible refine Kd.C_alloc ?_ _) | (with_reducible refine Kd.C_drewN ?_ _) | (with_reducible refine Kd.C_drew ?_)))
        (case side2 => exact (Kd.R_reads' HO_334001.out).2.1)
        (case side3 => repeat (first | exact (Kd.R_reads' HO_334002.out).2.2 | (with_reducible refine Kd.C_alloc ?_ _) | (with_reducible refine Kd.C_drewN ?_ _) | (with_reducible refine Kd.C_drew ?_)))
        (case side4 => exact (Kd.R_reads' HO_334002.out).2.1)
        (case side5 => repeat (first | exact (Kd.R_reads' HO347.out).2.2 | (with_reducible refine Kd.C_alloc ?_ _) | (with_reducible refine Kd.C_drewN ?_ _) | (with_reducible refine Kd.C_drew ?_)))
        (case side6 => exact (Kd.R_reads' HO347.out).2.1)
        (case side7 => repeat (first | exact (Kd.R_reads' HO350.out).2.2 | (with_reducible refine Kd.C_alloc ?_ _) | (with_reducible refine Kd.C_drewN ?_ _) | (with_reducible refine Kd.C_drew ?_)))
        (case side8 => exact (Kd.R_reads' HO350.out).2.1)
        rintro e w81 ⟨rfl, hb⟩
        refine ⟨_, rfl, ?_⟩
        have n0_ := Aside0.mk (Kd.R_below (qR HO_9.out) hb)
        have n1_ := Aside0.mk (Kd.V_below (by (with_reducible repeat (first | apply Kd.V_alloc | apply Kd.V_drewN | apply Kd.V_drew)); exact HO_326001.out) hb)
        have n2_ := Aside0.mk (Kd.R_below (qR HO_334001.out) hb)
        have n3_ := Aside0.mk (Kd.R_below (qR HO_334002.out) hb)
        have n4_ := Aside0.mk (Kd.S_below (by (with_reducible repeat (first | apply Kd.S_alloc | apply Kd.S_drewN | apply Kd.S_drew)); exact HO_343001.out) hb)
        have n5_ := Aside0.mk (Kd.R_below (qR HO347.out) hb)
        have n6_ := Aside0.mk (Kd.R_below (qR HO350.out) hb)
        have n7_ := Aside0.mk (blk_below (g := gb308) (o := .cells #[.int .i64 a0_0, .slice A0_1 l0_1.length c0_1, .slice A0_2 l0_2.length c0_2] 25 (0, 0)) (qK BK308.out) hb)
        have n8_ := Aside0.mk (blk_below (g := gb325) (o := .cells #[.int .i64 t320, .slice Ao30 t321.length co30] 30 (0, 0)) (qK BK325.out) hb)
        have n9_ := Aside0.mk (blk_below (g := gb333) (o := .cells #[.int .i64 t326, .slice Ao37 t327.length co37, .slice Ao38 t330.length co38] 35 (0, 0)) (qK BK333.out) hb)
        have n10_ := Aside0.mk (blk_below (g := gb342) (o := .cells #[.int .i64 t337, .slice Ao48 t338.length co48] 30 (0, 0)) (qK BK342.out) hb)
        have n11_ := Aside0.mk (below_step (qB) hb)
        clear HO_9
        clear HO_326001
        clear HO_334001
        clear HO_334002
        clear HO_343001
        clear HO347
        clear HO350
        clear BK308
        clear BK325
        clear BK333
        clear BK342
        clear HB
        have HO_9 := n0_
        have HO_326001 := n1_
        have HO_334001 := n2_
        have HO_334002 := n3_
        have HO_343001 := n4_
        have HO347 := n5_
        have HO350 := n6_
        have BK308 := n7_
        have BK325 := n8_
        have BK333 := n9_
        have BK342 := n10_
        have HB := n11_
        clear n0_ n1_ n2_ n3_ n4_ n5_ n6_ n7_ n8_ n9_ n10_ n11_
        (try clear hb)
        (try clear hb2)
        (try clear hk)
        (try clear hi)
        refine hK.out _ _ ⟨(blk_cell BK333.out 0).trans rfl, (blk_cell BK333.out 1).trans rfl, (blk_cell BK333.out 2).trans rfl, (blk_cell BK308.out 0).trans rfl, (blk_cell BK308.out 1).trans rfl, (blk_cell BK308.out 2).trans rfl⟩ (fun hHeld => ?_)
        clear hK K
        refine norm_ (a' := ?_) ?_ ?_
        rotate_left
        ·show Act.put _ (some 55) _ = _
         simp only [Act.put, List.setIfInBounds_toArray, List.set_cons_zero, List.set_cons_succ, i64_w, i32_w]
         rfl
        refine pure_ (i := 4) (N := some 56) (v := ?_) (a' := ?_) #[true, true, true, true, true] rfl rfl (by kernel_rfl) (fun _ _ _ h => h) (Or.inl ⟨by rfl, ?_⟩) ?_ ?_
        rotate_left
        ·intro w'
         go_simp
         with_reducible rfl
        rotate_left
        ·simp only [Act.put, List.setIfInBounds_toArray, List.set_cons_zero, List.set_cons_succ, i64_w, i32_w]
         rfl
        refine done_ (by kernel_rfl) ?_
        go_upto_region 20 with (first | ((with_reducible refine gate_callee (f := 7) rfl ?_); refine goesL_ (some 59) rfl rfl Try.func7 (by kernel_rfl) rfl #[.slice A1 l1.length c1] rfl qG ?_; (with_reducible refine (laws_toBoolS.calls kj15 _ _ l1 t352 _ ?side1 ?side2 A71.out).mono ?_); (case side1 => exact qC (Kd.C_below HR1.out HB.out)); (case side2 => exact HC1.out); rintro e w82 ⟨v353, rfl, ho0, hb⟩; refine ⟨_, rfl, ?_⟩; have n0_ := Aside0.mk (Kd.R_elder' (qR HO_9.out) (Kd.R_base ho0) hb); have n1_ := Aside0.mk (Kd.V_elder' (by (with_reducible repeat (first | apply Kd.V_alloc | apply Kd.V_drewN | apply Kd.V_drew)); exact HO_326001.out) (Kd.R_base ho0) hb); have n2_ := Aside0.mk (Kd.R_below (qR HO_334001.out) hb); have n3_ := Aside0.mk (Kd.R_below (qR HO_334002.out) hb); have n4_ := Aside0.mk (Kd.S_below (by (with_reducible repeat (first | apply Kd.S_alloc | apply Kd.S_drewN | apply Kd.S_drew)); exact HO_343001.out) hb); have n5_ := Aside0.mk (Kd.R_below (qR HO347.out) hb); have n6_ := Aside0.mk (Kd.R_below (qR HO350.out) hb); have n7_ := Aside0.mk (Kd.R_lower (Kd.R_new' ho0 (Kd.R_lt (qR HO_9.out))) (below_size (qB))); have n8_ := Aside0.mk (blk_below (g := gb308) (o := .cells #[.int .i64 a0_0, .slice A0_1 l0_1.length c0_1, .slice A0_2 l0_2.length c0_2] 25 (0, 0)) (qK BK308.out) hb); have n9_ := Aside0.mk (blk_below (g := gb325) (o := .cells #[.int .i64 t320, .slice Ao30 t321.length co30] 30 (0, 0)) (qK BK325.out) hb); have n10_ := Aside0.mk (blk_below (g := gb333) (o := .cells #[.int .i64 t326, .slice Ao37 t327.length co37, .slice Ao38 t330.length co38] 35 (0, 0)) (qK BK333.out) hb); have n11_ := Aside0.mk (blk_below (g := gb342) (o := .cells #[.int .i64 t337, .slice Ao48 t338.length co48] 30 (0, 0)) (qK BK342.out) hb); have n12_ := Aside0.mk (below_step (qB) hb); clear HO_9; clear HO_326001; clear HO_334001; clear HO_334002; clear HO_343001; clear HO347; clear HO350; clear BK308; clear BK325; clear BK333; clear BK342; clear HB; have HO_9 := n0_; have HO_326001 := n1_; have HO_334001 := n2_; have HO_334002 := n3_; have HO_343001 := n4_; have HO347 := n5_; have HO350 := n6_; have HO354 := n7_; have BK308 := n8_; have BK325 := n9_; have BK333 := n10_; have BK342 := n11_; have HB := n12_; clear n0_ n1_ n2_ n3_ n4_ n5_ n6_ n7_ n8_ n9_ n10_ n11_ n12_; (try clear hb); (try clear hb2); (try clear hk); (try clear hi); (try clear ho0); obtain ⟨Ao83, co83, eo83⟩ := Kd.R_slice HO354.out; subst eo83) | ((with_reducible refine gate_callee (f := 11) rfl ?_); refine goesL_ (some 60) rfl rfl Try.func11 (by kernel_rfl) rfl #[.slice Ao41 t334.length co41, .slice Ao83 t352.length co83] rfl qG ?_; (with_reducible refine (laws_eqBoolS.calls kj15 _ _ t334 _ _ t352 true _ ?side1 ?side2 ?side3 ?side4 A72.out).mono ?_); (case side1 => repeat (first | exact (Kd.R_reads' HO_9.out).2.2 | (with_reducible refine Kd.C_alloc ?_ _) | (with_reducible refine Kd.C_drewN ?_ _) | (with_reducible refine Kd.C_drew ?_))); (case side2 => exact (Kd.R_reads' HO_9.out).2.1); (case side3 => repeat (first | exact (Kd.R_reads' HO354.out).2.2 | (with_reducible refine Kd.C_alloc ?_ _) | (with_reducible refine Kd.C_drewN ?_ _) | (with_reducible refine Kd.C_drew ?_))); (case side4 => exact (Kd.R_reads' HO354.out).2.1); rintro e w' ⟨rfl, ⟨nd, rfl⟩⟩; refine ⟨_, rfl, ?_⟩; have hnb84 := NB333_308.out; have hnc84 := NB308_333.out; have hnb85 := NB333_325.out; have hnc85 := NB325_333.out; have hnb86 := NB333_342.out; have hnc86 := NB342_333.out; have hcz87_0 : w82.cell? ⟨gb333, 0, none⟩ = some (.int .i64 t326) := (blk_cell BK333.out 0).trans rfl; have hcz87_1 : w82.cell? ⟨gb333, 1, none⟩ = some (.slice Ao37 t327.length co37) := (blk_cell BK333.out 1).trans rfl; have hcz87_2 : w82.cell? ⟨gb333, 2, none⟩ = some (.slice Ao38 t330.length co38) := (blk_cell BK333.out 2).trans rfl; have hfz87_0 := blk_frozen BK333.out 0; have hfz87_1 := blk_frozen BK333.out 1; have hfz87_2 := blk_frozen BK333.out 2) | ((with_reducible refine gate_callee (f := 12) rfl ?_); refine goesL_ (some 64) rfl rfl Try.func12 (by kernel_rfl) rfl #[.agg #[.int .i64 t326, .slice Ao37 t327.length co37, .slice Ao38 t330.length co38], .int .i64 1] rfl qG ?_; (with_reducible refine (laws_markCircuit.calls kj15 t326 (fun k_ => some k_ = (.slice Ao37 t327.length co37 : Value).ownBlock) (.slice Ao37 t327.length co37) t327 (fun k_ => some k_ = (.slice Ao38 t330.length co38 : Value).ownBlock) (.slice Ao38 t330.length co38) t330 1 t356 t357 t358 w _ ?side1 ?side2 ?side3 A74.out).mono ?_); (case side1 => repeat (first | (with_reducible first | exact HB.out | apply below_alloc | apply pw_below_drewN | apply below_drew1 | refine below_set ?_ GE308.out | refine below_set ?_ GE325.out | refine below_set ?_ GE333.out | refine below_set ?_ GE342.out) | exact HB.out)); (case side2 => exact Kd.R_tight rfl HO_334001.out); (case side3 => exact Kd.R_tight rfl HO_334002.out); rintro e w88 ⟨rfl, hy0, hy1, hb, hkp⟩; refine ⟨_, rfl, ?_⟩; have n0_ := Aside0.mk (Kd.R_mono (ok' := fun k_ => some k_ ≠ (.slice Ao83 t352.length co83 : Value).ownBlock) (Kd.R_keptB ((Kd.R_apart' (Kd.R_apart' HO_9.out (Kd.R_typed HO_334001.out) (by decide)) (Kd.R_typed HO_334002.out) (by decide))) hkp (fun k_ hk_ hs_ => Or.elim hs_ (fun e_ => (hk_.1.2) e_) (fun e_ => (hk_.2) e_))) (fun k_ hk_ => hk_.1.1.1.2)); have n1_ := Aside0.mk (Kd.V_mono (ok' := fun k_ => some k_ ≠ (.slice Ao41 t334.length co41 : Value).ownBlock ∧ some k_ ≠ (.slice Ao37 t327.length co37 : Value).ownBlock ∧ some k_ ≠ (.slice Ao38 t330.length co38 : Value).ownBlock ∧ (some k_ ≠ (.slice Ao48 t338.length co48 : Value).ownBlock ∧ k_ < N0) ∧ some k_ ≠ (.slice Ao79 t345.length co79 : Value).ownBlock ∧ some k_ ≠ (.slice Ao80 t348.length co80 : Value).ownBlock ∧ some k_ ≠ (.slice Ao83 t352.length co83 : Value).ownBlock ∧ k_ ≠ gb308 ∧ k_ ≠ gb325 ∧ k_ ≠ gb333 ∧ k_ ≠ gb342) (Kd.V_keptB (HO_326001.out) hkp (fun k_ hk_ hs_ => Or.elim hs_ (fun e_ => (hk_.1.1.1.2.1) e_) (fun e_ => (hk_.1.1.1.2.2.1) e_))) (fun k_ hk_ => ⟨hk_.1.1.1.1.1, hk_.1.1.1.1.2.1, hk_.1.1.1.1.2.2.1, hk_.1.1.1.1.2.2.2.1, hk_.1.1.1.2, hk_.1.1.2, hk_.1.2, hk_.1.1.1.1.2.2.2.2.1, hk_.1.1.1.1.2.2.2.2.2.1, hk_.1.1.1.1.2.2.2.2.2.2.1, hk_.1.1.1.1.2.2.2.2.2.2.2⟩)); have n2_ := Aside0.mk (Kd.R_reok rfl hy0 (fun k_ e_ => HO_334001.out.1 k_ e_)); have n3_ := Aside0.mk (Kd.R_reok rfl hy1 (fun k_ e_ => HO_334002.out.1 k_ e_)); have n4_ := Aside0.mk (Kd.S_mono (ok' := fun k_ => (some k_ ≠ (.slice Ao38 t330.length co38 : Value).ownBlock ∧ N0 ≤ k_) ∧ some k_ ≠ (.slice Ao80 t348.length co80 : Value).ownBlock) (Kd.S_keptB ((Kd.S_apart' HO_343001.out (Kd.R_typed HO_334001.out) (by decide))) hkp (fun k_ hk_ hs_ => Or.elim hs_ (fun e_ => (hk_.2) e_) (fun e_ => (hk_.1.1.1) e_))) (fun k_ hk_ => ⟨hk_.1.1.1, hk_.1.1.2⟩)); have n5_ := Aside0.mk (blk_kept BK308.out hkp (fun hs_ => Or.elim hs_ (fun e_ => (fun e_ => (Kd.R_ne HO_334001.out BK308.out (by decide)) e_) e_) (fun e_ => (fun e_ => (Kd.R_ne HO_334002.out BK308.out (by decide)) e_) e_))); have n6_ := Aside0.mk (blk_kept BK325.out hkp (fun hs_ => Or.elim hs_ (fun e_ => (fun e_ => (Kd.R_ne HO_334001.out BK325.out (by decide)) e_) e_) (fun e_ => (fun e_ => (Kd.R_ne HO_334002.out BK325.out (by decide)) e_) e_))); have n7_ := Aside0.mk (blk_kept BK333.out hkp (fun hs_ => Or.elim hs_ (fun e_ => (fun e_ => (Kd.R_ne HO_334001.out BK333.out (by decide)) e_) e_) (fun e_ => (fun e_ => (Kd.R_ne HO_334002.out BK333.out (by decide)) e_) e_))); have n8_ := Aside0.mk (blk_kept BK342.out hkp (fun hs_ => Or.elim hs_ (fun e_ => (fun e_ => (Kd.R_ne HO_334001.out BK342.out (by decide)) e_) e_) (fun e_ => (fun e_ => (Kd.R_ne HO_334002.out BK342.out (by decide)) e_) e_))); have n9_ := Aside0.mk (Kd.R_mono (ok' := fun k_ => some k_ ≠ (.slice Ao37 t327.length co37 : Value).ownBlock) (Kd.R_keptB ((Kd.R_apart' HO347.out (Kd.R_typed HO_334002.out) (by decide))) hkp (fun k_ hk_ hs_ => Or.elim hs_ (fun e_ => (hk_.1.2) e_) (fun e_ => (hk_.2) e_))) (fun k_ hk_ => hk_.1.1.2)); have n10_ := Aside0.mk (Kd.R_mono (ok' := fun k_ => some k_ ≠ (.slice Ao38 t330.length co38 : Value).ownBlock) (Kd.R_keptB ((Kd.R_apart' HO350.out (Kd.R_typed HO_334001.out) (by decide))) hkp (fun k_ hk_ hs_ => Or.elim hs_ (fun e_ => (hk_.2) e_) (fun e_ => (hk_.1.2) e_))) (fun k_ hk_ => hk_.1.1.2)); have n11_ := Aside0.mk (Kd.R_mono (ok' := fun k_ => some k_ ≠ (.slice Ao41 t334.length co41 : Value).ownBlock) (Kd.R_keptB ((Kd.R_apart' (Kd.R_apart' HO354.out (Kd.R_typed HO_334001.out) (by decide)) (Kd.R_typed HO_334002.out) (by decide))) hkp (fun k_ hk_ hs_ => Or.elim hs_ (fun e_ => (hk_.1.2) e_) (fun e_ => (hk_.2) e_))) (fun k_ hk_ => hk_.1.1.1.2)); have n12_ := Aside0.mk (hb); clear HO_9; clear HO_326001; clear HO_334001; clear HO_334002; clear HO_343001; clear BK308; clear BK325; clear BK333; clear BK342; clear HO347; clear HO350; clear HO354; clear HB; have HO_9 := n0_; have HO_326001 := n1_; have HO_334001 := n2_; have HO_334002 := n3_; have HO_343001 := n4_; have BK308 := n5_; have BK325 := n6_; have BK333 := n7_; have BK342 := n8_; have HO347 := n9_; have HO350 := n10_; have HO354 := n11_; have HB := n12_; clear n0_ n1_ n2_ n3_ n4_ n5_ n6_ n7_ n8_ n9_ n10_ n11_ n12_; (try clear hb); (try clear hkp); (try clear hy0); (try clear hy1)) | ((with_reducible refine gate_callee (f := 13) rfl ?_); refine goesL_ (some 67) rfl rfl Try.func13 (by kernel_rfl) rfl #[.slice Ao41 t334.length co41, .int .i64 t356] rfl qG ?_; (with_reducible refine (laws_markBoolS.calls kj15 (fun k_ => some k_ = (.slice Ao41 t334.length co41 : Value).ownBlock) (.slice Ao41 t334.length co41) t334 t356 t359 t360 w _ ?side1 ?side2 A75.out).mono ?_); (case side1 => repeat (first | (with_reducible first | exact HB.out | apply below_alloc | apply pw_below_drewN | apply below_drew1 | refine below_set ?_ GE308.out | refine below_set ?_ GE325.out | refine below_set ?_ GE333.out | refine below_set ?_ GE342.out) | exact HB.out)); (case side2 => exact Kd.R_tight rfl HO_9.out); rintro e w89 ⟨rfl, hy0, hb, hkp⟩; refine ⟨_, rfl, ?_⟩; have n0_ := Aside0.mk (Kd.R_reok rfl hy0 (fun k_ e_ => HO_9.out.1 k_ e_)); have n1_ := Aside0.mk (Kd.V_mono (ok' := fun k_ => some k_ ≠ (.slice Ao41 t334.length co41 : Value).ownBlock ∧ some k_ ≠ (.slice Ao37 t327.length co37 : Value).ownBlock ∧ some k_ ≠ (.slice Ao38 t330.length co38 : Value).ownBlock ∧ (some k_ ≠ (.slice Ao48 t338.length co48 : Value).ownBlock ∧ k_ < N0) ∧ some k_ ≠ (.slice Ao79 t345.length co79 : Value).ownBlock ∧ some k_ ≠ (.slice Ao80 t348.length co80 : Value).ownBlock ∧ some k_ ≠ (.slice Ao83 t352.length co83 : Value).ownBlock ∧ k_ ≠ gb308 ∧ k_ ≠ gb325 ∧ k_ ≠ gb333 ∧ k_ ≠ gb342) (Kd.V_keptB (HO_326001.out) hkp (fun k_ hk_ hs_ => (hk_.1) hs_)) (fun k_ hk_ => ⟨hk_.1.1, hk_.1.2.1, hk_.1.2.2.1, hk_.1.2.2.2.1, hk_.1.2.2.2.2.1, hk_.1.2.2.2.2.2.1, hk_.1.2.2.2.2.2.2.1, hk_.1.2.2.2.2.2.2.2.1, hk_.1.2.2.2.2.2.2.2.2.1, hk_.1.2.2.2.2.2.2.2.2.2.1, hk_.1.2.2.2.2.2.2.2.2.2.2⟩)); have n2_ := Aside0.mk (Kd.R_mono (ok' := fun k_ => some k_ ≠ (.slice Ao79 t345.length co79 : Value).ownBlock) (Kd.R_keptB ((Kd.R_apart' HO_334001.out (Kd.R_typed HO_9.out) (by decide))) hkp (fun k_ hk_ hs_ => (hk_.2) hs_)) (fun k_ hk_ => hk_.1.1.2)); have n3_ := Aside0.mk (Kd.R_mono (ok' := fun k_ => some k_ ≠ (.slice Ao80 t348.length co80 : Value).ownBlock) (Kd.R_keptB ((Kd.R_apart' HO_334002.out (Kd.R_typed HO_9.out) (by decide))) hkp (fun k_ hk_ hs_ => (hk_.2) hs_)) (fun k_ hk_ => hk_.1.1.2)); have n4_ := Aside0.mk (Kd.S_mono (ok' := fun k_ => (some k_ ≠ (.slice Ao38 t330.length co38 : Value).ownBlock ∧ N0 ≤ k_) ∧ some k_ ≠ (.slice Ao80 t348.length co80 : Value).ownBlock) (Kd.S_keptB ((Kd.S_apart' HO_343001.out (Kd.R_typed HO_9.out) (by decide))) hkp (fun k_ hk_ hs_ => (hk_.2) hs_)) (fun k_ hk_ => ⟨hk_.1.1.1, hk_.1.1.2⟩)); have n5_ := Aside0.mk (blk_kept BK308.out hkp (fun hs_ => (fun e_ => (Kd.R_ne HO_9.out BK308.out (by decide)) e_) hs_)); have n6_ := Aside0.mk (blk_kept BK325.out hkp (fun hs_ => (fun e_ => (Kd.R_ne HO_9.out BK325.out (by decide)) e_) hs_)); have n7_ := Aside0.mk (blk_kept BK333.out hkp (fun hs_ => (fun e_ => (Kd.R_ne HO_9.out BK333.out (by decide)) e_) hs_)); have n8_ := Aside0.mk (blk_kept BK342.out hkp (fun hs_ => (fun e_ => (Kd.R_ne HO_9.out BK342.out (by decide)) e_) hs_)); have n9_ := Aside0.mk (Kd.R_mono (ok' := fun k_ => some k_ ≠ (.slice Ao37 t327.length co37 : Value).ownBlock) (Kd.R_keptB ((Kd.R_apart' HO347.out (Kd.R_typed HO_9.out) (by decide))) hkp (fun k_ hk_ hs_ => (hk_.2) hs_)) (fun k_ hk_ => hk_.1.1)); have n10_ := Aside0.mk (Kd.R_mono (ok' := fun k_ => some k_ ≠ (.slice Ao38 t330.length co38 : Value).ownBlock) (Kd.R_keptB ((Kd.R_apart' HO350.out (Kd.R_typed HO_9.out) (by decide))) hkp (fun k_ hk_ hs_ => (hk_.2) hs_)) (fun k_ hk_ => hk_.1.1)); have n11_ := Aside0.mk (Kd.R_mono (ok' := fun k_ => some k_ ≠ (.slice Ao41 t334.length co41 : Value).ownBlock) (Kd.R_keptB (HO354.out) hkp (fun k_ hk_ hs_ => (hk_) hs_)) (fun k_ hk_ => hk_.1)); have n12_ := Aside0.mk (hb); clear HO_9; clear HO_326001; clear HO_334001; clear HO_334002; clear HO_343001; clear BK308; clear BK325; clear BK333; clear BK342; clear HO347; clear HO350; clear HO354; clear HB; have HO_9 := n0_; have HO_326001 := n1_; have HO_334001 := n2_; have HO_334002 := n3_; have HO_343001 := n4_; have BK308 := n5_; have BK325 := n6_; have BK333 := n7_; have BK342 := n8_; have HO347 := n9_; have HO350 := n10_; have HO354 := n11_; have HB := n12_; clear n0_ n1_ n2_ n3_ n4_ n5_ n6_ n7_ n8_ n9_ n10_ n11_ n12_; (try clear hb); (try clear hkp); (try clear hy0)))
        (try simp only [Act.put, List.setIfInBounds_toArray, List.set_cons_zero, List.set_cons_succ])
        go_cut [80] (fun v80 wc => ∃ (kq : Nat) (x80_75 : Bool), v80 = .bool x80_75 ∧ Aside0 (laws_FnExactCnfFor.j1 kq l1 t324 x80_75 a0_0 l0_1 l0_2 t320 t321 t337 t338 = some true) ∧ Aside0 (kq ≤ kj15) ∧ Aside0 (Kd.V (Kd.slice 3 (Kd.int .i64)) 23 wc w.heap.size (fun k_ => some k_ ≠ ((.slice Ao37 t327.length co37) : Value).ownBlock ∧ some k_ ≠ ((.slice Ao38 t330.length co38) : Value).ownBlock ∧ (some k_ ≠ ((.slice Ao48 t338.length co48) : Value).ownBlock ∧ k_ < N0) ∧ k_ ≠ gb308 ∧ k_ ≠ gb325 ∧ k_ ≠ gb333 ∧ k_ ≠ gb342) (.slice Ao30 t321.length co30) t321) ∧ Aside0 (Kd.R k54 54 wc w.heap.size (fun _ => True) (.slice Ao37 t327.length co37) t357) ∧ Aside0 (Kd.R (Kd.int .i64) 3 wc w.heap.size (fun _ => True) (.slice Ao38 t330.length co38) t358) ∧ Aside0 (Kd.S (Kd.slice 3 (Kd.int .i64)) 23 wc w.heap.size (fun k_ => (some k_ ≠ ((.slice Ao38 t330.length co38) : Value).ownBlock ∧ N0 ≤ k_)) (.slice Ao48 t338.length co48) t338) ∧ Aside0 (wc.heap[gb308]? = some (.cells #[.int .i64 a0_0, (.slice A0_1 l0_1.length c0_1), (.slice A0_2 l0_2.length c0_2)] 25 (0, 0))) ∧ Aside0 (wc.heap[gb325]? = some (.cells #[.int .i64 t320, (.slice Ao30 t321.length co30)] 30 (0, 0))) ∧ Aside0 (wc.heap[gb333]? = some (.cells #[.int .i64 t326, (.slice Ao37 t327.length co37), (.slice Ao38 t330.length co38)] 35 (0, 0))) ∧ Aside0 (wc.heap[gb342]? = some (.cells #[.int .i64 t337, (.slice Ao48 t338.length co48)] 30 (0, 0))) ∧ Aside0 (Below w.heap.size w wc))
        case first =>
         have H := HC76.out
         clear HC76
         by_cases c90 : t359 < 0
         ·rw [if_pos c90] at H
          exact absurd H (by cases kj15 <;> simp [laws_FnExactCnfFor.j1])
         ·rw [if_neg c90] at H
          have c90b0 : decide (t359 < 0) = false := decide_eq_false c90
          clear c90
          (first | rw [c90b0] | (simp only [i64_w, i32_w]; rw [c90b0]) | skip)
          replace H := Option.bind_eq_some_iff.mp H
          obtain ⟨t361, A910, H⟩ := H
          replace H : (if t361 = true then (laws_FnExactCnfFor.j1 kj15 l1 t324 (t341 != t324) a0_0 l0_1 l0_2 t320 t321 t337 t338) else (laws_FnExactCnfFor.j1 kj15 l1 t324 true a0_0 l0_1 l0_2 t320 t321 t337 t338)) = some true := H
          have A91 := Aside0.mk A910
          clear A910
          by_cases c92 : t361 = true
          ·subst c92
           have H1 : (laws_FnExactCnfFor.j1 kj15 l1 t324 (t341 != t324) a0_0 l0_1 l0_2 t320 t321 t337 t338) = some true := by rw [if_pos rfl] at H; exact H
           clear H
           have H := H1
           clear H1
           have H' := Aside0.mk H
           clear H
           have hnb93 := NB342_308.out
           have hnc93 := NB308_342.out
           have hnb94 := NB342_325.out
           have hnc94 := NB325_342.out
           have hnb95 := NB342_333.out
           have hnc95 := NB333_342.out
           have hcz96_0 : w89.cell? ⟨gb342, 0, none⟩ = some (.int .i64 t337) := (blk_cell BK342.out 0).trans rfl
           have hcz96_1 : w89.cell? ⟨gb342, 1, none⟩ = some (.slice Ao48 t338.length co48) := (blk_cell BK342.out 1).trans rfl
           have hfz96_0 := blk_frozen BK342.out 0
           have hfz96_1 := blk_frozen BK342.out 1
           have hnb97 := NB325_308.out
           have hnc97 := NB308_325.out
           have hnb98 := NB325_333.out
           have hnc98 := NB333_325.out
           have hcz99_0 : w89.cell? ⟨gb325, 0, none⟩ = some (.int .i64 t320) := (blk_cell BK325.out 0).trans rfl
           have hcz99_1 : w89.cell? ⟨gb325, 1, none⟩ = some (.slice Ao30 t321.length co30) := (blk_cell BK325.out 1).trans rfl
           have hfz99_0 := blk_frozen BK325.out 0
           have hfz99_1 := blk_frozen BK325.out 1
           go_wp2_with (first | (go_at_call 9; (with_reducible refine (laws_eqCnf.calls kj15 t337 _ _ t338 t320 _ _ t321 true _ ?side1 ?side2 ?side3 ?side4 A91.out).mono ?_); (case side1 => repeat (first | exact (Kd.S_reads' HO_343001.out).2.2 | (with_reducible refine Kd.C_alloc ?_ _) | (with_reducible refine Kd.C_drewN ?_ _) | (with_reducible refine Kd.C_drew ?_))); (case side2 => exact (Kd.S_reads' HO_343001.out).2.1); (case side3 => repeat (first | exact (Kd.V_reads' HO_326001.out).2.2 | (with_reducible refine Kd.C_alloc ?_ _) | (with_reducible refine Kd.C_drewN ?_ _) | (with_reducible refine Kd.C_drew ?_))); (case side4 => exact (Kd.V_reads' HO_326001.out).2.1); rintro e w100 ⟨rfl, hb⟩; have n0_ := Aside0.mk (Kd.R_below (qR HO_9.out) hb); have n1_ := Aside0.mk (Kd.V_below (by (with_reducible repeat (first | apply Kd.V_alloc | apply Kd.V_drewN | apply Kd.V_drew)); exact HO_326001.out) hb); have n2_ := Aside0.mk (Kd.R_below (qR HO_334001.out) hb); have n3_ := Aside0.mk (Kd.R_below (qR HO_334002.out) hb); have n4_ := Aside0.mk (Kd.S_below (by (with_reducible repeat (first | apply Kd.S_alloc | apply Kd.S_drewN | apply Kd.S_drew)); exact HO_343001.out) hb); have n5_ := Aside0.mk (Kd.R_below (qR HO347.out) hb); have n6_ := Aside0.mk (Kd.R_below (qR HO350.out) hb); have n7_ := Aside0.mk (Kd.R_below (qR HO354.out) hb); have n8_ := Aside0.mk (blk_below (g := gb308) (o := .cells #[.int .i64 a0_0, .slice A0_1 l0_1.length c0_1, .slice A0_2 l0_2.length c0_2] 25 (0, 0)) (qK BK308.out) hb); have n9_ := Aside0.mk (blk_below (g := gb325) (o := .cells #[.int .i64 t320, .slice Ao30 t321.length co30] 30 (0, 0)) (qK BK325.out) hb); have n10_ := Aside0.mk (blk_below (g := gb333) (o := .cells #[.int .i64 t326, .slice Ao37 t327.length co37, .slice Ao38 t330.length co38] 35 (0, 0)) (qK BK333.out) hb); have n11_ := Aside0.mk (blk_below (g := gb342) (o := .cells #[.int .i64 t337, .slice Ao48 t338.length co48] 30 (0, 0)) (qK BK342.out) hb); have n12_ := Aside0.mk (below_step (qB) hb); clear HO_9; clear HO_326001; clear HO_334001; clear HO_334002; clear HO_343001; clear HO347; clear HO350; clear HO354; clear BK308; clear BK325; clear BK333; clear BK342; clear HB; have HO_9 := n0_; have HO_326001 := n1_; have HO_334001 := n2_; have HO_334002 := n3_; have HO_343001 := n4_; have HO347 := n5_; have HO350 := n6_; have HO354 := n7_; have BK308 := n8_; have BK325 := n9_; have BK333 := n10_; have BK342 := n11_; have HB := n12_; clear n0_ n1_ n2_ n3_ n4_ n5_ n6_ n7_ n8_ n9_ n10_ n11_ n12_; (try clear hb); (try clear hb2); (try clear hk); (try clear hi)))
           go_meet
           case rel => exact ⟨_, ((t341 != t324)), qS, H', ⟨by have := HJ15.out; first | omega | exact Nat.le_refl _⟩, ⟨by (with_reducible repeat (first | apply Kd.V_alloc | apply Kd.V_drewN | apply Kd.V_drew)); exact Kd.V_mono HO_326001.out (fun _ hk => ⟨hk.2.1, ⟨hk.2.2.1, ⟨hk.2.2.2.1, ⟨hk.2.2.2.2.2.2.2.1, ⟨hk.2.2.2.2.2.2.2.2.1, ⟨hk.2.2.2.2.2.2.2.2.2.1, hk.2.2.2.2.2.2.2.2.2.2⟩⟩⟩⟩⟩⟩)⟩, ⟨by (with_reducible repeat (first | apply Kd.R_alloc | apply Kd.R_drewN | apply Kd.R_drew)); exact Kd.R_mono HO_334001.out (fun _ hk => trivial)⟩, ⟨by (with_reducible repeat (first | apply Kd.R_alloc | apply Kd.R_drewN | apply Kd.R_drew)); exact Kd.R_mono HO_334002.out (fun _ hk => trivial)⟩, ⟨by (with_reducible repeat (first | apply Kd.S_alloc | apply Kd.S_drewN | apply Kd.S_drew)); exact Kd.S_mono HO_343001.out (fun _ hk => hk.1)⟩, ⟨by exact qK BK308.out⟩, ⟨by exact qK BK325.out⟩, ⟨by exact qK BK333.out⟩, ⟨by exact qK BK342.out⟩, ⟨qB⟩⟩
          ·replace c92 := Bool.eq_false_iff.mpr c92
           subst c92
           have H1 : (laws_FnExactCnfFor.j1 kj15 l1 t324 true a0_0 l0_1 l0_2 t320 t321 t337 t338) = some true := by rw [if_neg (show ¬ (false = true) by decide)] at H; exact H
           exact absurd H1 (by cases kj15 <;> simp [laws_FnExactCnfFor.j1])
        case rest =>
         clear HC76
         try clear c1
         try clear c2
         try clear p2
         try clear c3
         try clear c3b0
         try clear c3b1
         try clear c4
         try clear c5
         try clear c6
         try clear c6b0
         try clear c7
         try clear c8
         try clear c9
         try clear c10
         try clear c11
         try clear c12
         try clear c13
         try clear c28
         try clear c34
         try clear c35
         try clear c44
         try clear c45
         try clear c46
         try clear c50
         try clear c51
         try clear c52
         try clear c53
         try clear c55
         try clear c56
         try clear c59
         try clear c60
         try clear c61
         try clear c63
         try clear c64
         try clear c67
         try clear c70
         try clear c73
         try clear c84
         try clear c85
         try clear c86
         try clear c90
         try clear c90b0
         try clear c92
         try clear c93
         try clear c94
         try clear c95
         try clear c97
         try clear c98
         try clear c101
         try clear c102
         try clear c103
         try clear c105
         try clear c106
         try clear hcz104_0
         try clear hcz104_1
         try clear hcz107_0
         try clear hcz107_1
         try clear hcz18_0
         try clear hcz18_1
         try clear hcz18_2
         try clear hcz20_0
         try clear hcz20_1
         try clear hcz20_2
         try clear hcz29_0
         try clear hcz29_1
         try clear hcz31_0
         try clear hcz31_1
         try clear hcz31_2
         try clear hcz36_0
         try clear hcz36_1
         try clear hcz36_2
         try clear hcz40_0
         try clear hcz40_1
         try clear hcz40_2
         try clear hcz47_0
         try clear hcz47_1
         try clear hcz54_0
         try clear hcz54_1
         try clear hcz57_0
         try clear hcz57_1
         try clear hcz62_0
         try clear hcz62_1
         try clear hcz65_0
         try clear hcz65_1
         try clear hcz87_0
         try clear hcz87_1
         try clear hcz87_2
         try clear hcz8_0
         try clear hcz8_1
         try clear hcz8_2
         try clear hcz96_0
         try clear hcz96_1
         try clear hcz99_0
         try clear hcz99_1
         try clear hfz104_0
         try clear hfz104_1
         try clear hfz107_0
         try clear hfz107_1
         try clear hfz18_0
         try clear hfz18_1
         try clear hfz18_2
         try clear hfz20_0
         try clear hfz20_1
         try clear hfz20_2
         try clear hfz29_0
         try clear hfz29_1
         try clear hfz31_0
         try clear hfz31_1
         try clear hfz31_2
         try clear hfz36_0
         try clear hfz36_1
         try clear hfz36_2
         try clear hfz40_0
         try clear hfz40_1
         try clear hfz40_2
         try clear hfz47_0
         try clear hfz47_1
         try clear hfz54_0
         try clear hfz54_1
         try clear hfz57_0
         try clear hfz57_1
         try clear hfz62_0
         try clear hfz62_1
         try clear hfz65_0
         try clear hfz65_1
         try clear hfz87_0
         try clear hfz87_1
         try clear hfz87_2
         try clear hfz8_0
         try clear hfz8_1
         try clear hfz8_2
         try clear hfz96_0
         try clear hfz96_1
         try clear hfz99_0
         try clear hfz99_1
         try clear p2
         obtain ⟨kq, x80_75, rfl, HA, HJ75, HO_326001, HO_334001, HO_334002, HO_343001, BK308, BK325, BK333, BK342, HB⟩ := hcut
         have hl334001_75 := (Kd.R_reads' HO_334001.out).1
         rw [hl334001_75] at HO_334001
         (try simp only [hl334001_75])
         (try simp only [hl334001_75] at BK308)
         (try simp only [hl334001_75] at BK325)
         (try simp only [hl334001_75] at BK333)
         (try simp only [hl334001_75] at BK342)
         (try simp only [hl334001_75] at HO_326001)
         (try simp only [hl334001_75] at HO_334002)
         (try simp only [hl334001_75] at HO_343001)
         have hl334002_75 := (Kd.R_reads' HO_334002.out).1
         rw [hl334002_75] at HO_334002
         (try simp only [hl334002_75])
         (try simp only [hl334002_75] at BK308)
         (try simp only [hl334002_75] at BK325)
         (try simp only [hl334002_75] at BK333)
         (try simp only [hl334002_75] at BK342)
         (try simp only [hl334002_75] at HO_326001)
         (try simp only [hl334002_75] at HO_334001)
         (try simp only [hl334002_75] at HO_343001)
         cases kq with
         | zero => exact absurd HA.out (by simp [laws_FnExactCnfFor.j1])
         | succ kj75 =>
          have H := HA.out
          clear HA
          simp only [laws_FnExactCnfFor.j1] at H
          by_cases c109 : x80_75 = true
          ·subst c109
           have H1 : (some false) = some true := by rw [if_pos rfl] at H; exact H
           exact absurd H1 (by simp)
          ·replace c109 := Bool.eq_false_iff.mpr c109
           subst c109
           have H1 : ((laws_markCnf.f kj75 t337 t338 1).bind fun bt362 => ((laws_heldCnf.f kj75 t337 bt362.2 1).bind fun t364 => (if t364 < 0 then (some false) else (if t364 = bt362.1 then ((laws_toCircuit.f kj75 a0_0 l0_1 l0_2).bind fun bt365 => ((laws_toBoolS.f kj75 l1).bind fun t372 => ((impl_CnfFor.f kj75 bt365.1 bt365.2.1 bt365.2.2 t372).bind fun bt375 => ((laws_eqCnf.f kj75 bt375.1 bt375.2.1 t320 t321).bind fun t381 => (if t381 = true then (laws_FnExactCnfFor.j2 kj75 bt362.1 (bt375.2.2 != t324) t337 bt362.2) else (laws_FnExactCnfFor.j2 kj75 bt362.1 true t337 bt362.2)))))) else (some false))))) = some true := by rw [if_neg (show ¬ (false = true) by decide)] at H; exact H
           clear H
           have H := H1
           clear H1
           replace H := Option.bind_eq_some_iff.mp H
           obtain ⟨⟨t362, t363⟩, A1100, H⟩ := H
           replace H : ((laws_heldCnf.f kj75 t337 t363 1).bind fun t364 => (if t364 < 0 then (some false) else (if t364 = t362 then ((laws_toCircuit.f kj75 a0_0 l0_1 l0_2).bind fun bt365 => ((laws_toBoolS.f kj75 l1).bind fun t372 => ((impl_CnfFor.f kj75 bt365.1 bt365.2.1 bt365.2.2 t372).bind fun bt375 => ((laws_eqCnf.f kj75 bt375.1 bt375.2.1 t320 t321).bind fun t381 => (if t381 = true then (laws_FnExactCnfFor.j2 kj75 t362 (bt375.2.2 != t324) t337 t363) else (laws_FnExactCnfFor.j2 kj75 t362 true t337 t363)))))) else (some false)))) = some true := H
           have A110 := Aside0.mk A1100
           clear A1100
           replace H := Option.bind_eq_some_iff.mp H
           obtain ⟨t364, A1110, H⟩ := H
           replace H : (if t364 < 0 then (some false) else (if t364 = t362 then ((laws_toCircuit.f kj75 a0_0 l0_1 l0_2).bind fun bt365 => ((laws_toBoolS.f kj75 l1).bind fun t372 => ((impl_CnfFor.f kj75 bt365.1 bt365.2.1 bt365.2.2 t372).bind fun bt375 => ((laws_eqCnf.f kj75 bt375.1 bt375.2.1 t320 t321).bind fun t381 => (if t381 = true then (laws_FnExactCnfFor.j2 kj75 t362 (bt375.2.2 != t324) t337 t363) else (laws_FnExactCnfFor.j2 kj75 t362 true t337 t363)))))) else (some false))) = some true := H
           have A111 := Aside0.mk A1110
           clear A1110
           by_cases c112 : t364 < 0
           ·rw [if_pos c112] at H
            exact absurd H (by simp)
           ·rw [if_neg c112] at H
            have c112b0 : decide (t364 < 0) = false := decide_eq_false c112
            clear c112
            by_cases c120 : t364 = t362
            ·rw [if_pos c120] at H
             have c120b0 : (t364 == t362) = true := beq_iff_eq.mpr c120
             have c120b1 : (t364 != t362) = false := bne_eq_false_iff_eq.mpr c120
             clear c120
             replace H := Option.bind_eq_some_iff.mp H
             obtain ⟨⟨t365, t366, t369⟩, A1210, H⟩ := H
             replace H : ((laws_toBoolS.f kj75 l1).bind fun t372 => ((impl_CnfFor.f kj75 t365 t366 t369 t372).bind fun bt375 => ((laws_eqCnf.f kj75 bt375.1 bt375.2.1 t320 t321).bind fun t381 => (if t381 = true then (laws_FnExactCnfFor.j2 kj75 t362 (bt375.2.2 != t324) t337 t363) else (laws_FnExactCnfFor.j2 kj75 t362 true t337 t363))))) = some true := H
             have A121 := Aside0.mk A1210
             clear A1210
             replace H := Option.bind_eq_some_iff.mp H
             obtain ⟨t372, A1220, H⟩ := H
             replace H : ((impl_CnfFor.f kj75 t365 t366 t369 t372).bind fun bt375 => ((laws_eqCnf.f kj75 bt375.1 bt375.2.1 t320 t321).bind fun t381 => (if t381 = true then (laws_FnExactCnfFor.j2 kj75 t362 (bt375.2.2 != t324) t337 t363) else (laws_FnExactCnfFor.j2 kj75 t362 true t337 t363)))) = some true := H
             have A122 := Aside0.mk A1220
             clear A1220
             replace H := Option.bind_eq_some_iff.mp H
             obtain ⟨⟨t375, t376, t379⟩, A1230, H⟩ := H
             replace H : ((laws_eqCnf.f kj75 t375 t376 t320 t321).bind fun t381 => (if t381 = true then (laws_FnExactCnfFor.j2 kj75 t362 (t379 != t324) t337 t363) else (laws_FnExactCnfFor.j2 kj75 t362 true t337 t363))) = some true := H
             have A123 := Aside0.mk A1230
             clear A1230
             have HC124 := Aside0.mk H
             clear H
             have hnb125 := NB342_308.out
             have hnc125 := NB308_342.out
             have hnb126 := NB342_325.out
             have hnc126 := NB325_342.out
             have hnb127 := NB342_333.out
             have hnc127 := NB333_342.out
             have hcz128_0 : wc.cell? ⟨gb342, 0, none⟩ = some (.int .i64 t337) := (blk_cell BK342.out 0).trans rfl
             have hcz128_1 : wc.cell? ⟨gb342, 1, none⟩ = some (.slice Ao48 t338.length co48) := (blk_cell BK342.out 1).trans rfl
             have hfz128_0 := blk_frozen BK342.out 0
             have hfz128_1 := blk_frozen BK342.out 1
             go_upto_region 31 with (first | ((with_reducible refine gate_callee (f := 14) rfl ?_); refine goesL_ (some 83) rfl rfl Try.func14 (by kernel_rfl) rfl #[.agg #[.int .i64 t337, .slice Ao48 t338.length co48], .int .i64 1] rfl qG ?_; (with_reducible first | refine (laws_markCnf.calls kj75 t337 _ (.slice Ao48 t338.length co48) t338 1 t362 t363 w _ ?side1 (HO_343001.out) A110.out).mono ?_ | refine (laws_markCnf.calls kj75 t337 _ (.slice Ao48 t338.length co48) t338 1 t362 t363 w _ ?side1 (Kd.S_drewN (HO_343001.out) _) A110.out).mono ?_); (case side1 => repeat (first | (with_reducible first | exact HB.out | apply below_alloc | apply pw_below_drewN | apply below_drew1 | refine below_set ?_ GE308.out | refine below_set ?_ GE325.out | refine below_set ?_ GE333.out | refine below_set ?_ GE342.out) | exact HB.out)); rintro e w129 ⟨rfl, hy0, hb, hkp⟩; refine ⟨_, rfl, ?_⟩; have n0_ := Aside0.mk (Kd.V_mono (ok' := fun k_ => some k_ ≠ (.slice Ao37 t357.length co37 : Value).ownBlock ∧ some k_ ≠ (.slice Ao38 t358.length co38 : Value).ownBlock ∧ (some k_ ≠ (.slice Ao48 t338.length co48 : Value).ownBlock ∧ k_ < N0) ∧ k_ ≠ gb308 ∧ k_ ≠ gb325 ∧ k_ ≠ gb333 ∧ k_ ≠ gb342) (Kd.V_keptB (HO_326001.out) hkp (fun k_ hk_ hs_ => Nat.not_lt.2 hs_.1.2 hk_.2.2.1.2)) (fun k_ hk_ => ⟨hk_.1.1, hk_.1.2.1, hk_.1.2.2.1, hk_.1.2.2.2.1, hk_.1.2.2.2.2.1, hk_.1.2.2.2.2.2.1, hk_.1.2.2.2.2.2.2⟩)); have n1_ := Aside0.mk (by first | exact R_keepI HO_334001.out hkp (by decide) | exact R_keepP rfl HO_334001.out hkp (fun k_ e_ hs_ => hs_.1.1 e_.symm)); have n2_ := Aside0.mk (by first | exact R_keepI HO_334002.out hkp (by decide) | exact R_keepP rfl HO_334002.out hkp (fun k_ e_ hs_ => hs_.1.1 e_.symm)); have n3_ := Aside0.mk (hy0); have n4_ := Aside0.mk (by first | exact blk_keepP BK308.out hkp (by decide) | exact blk_keepP (blk_drewN BK308.out _) hkp (by decide)); have n5_ := Aside0.mk (by first | exact blk_keepP BK325.out hkp (by decide) | exact blk_keepP (blk_drewN BK325.out _) hkp (by decide)); have n6_ := Aside0.mk (by first | exact blk_keepP BK333.out hkp (by decide) | exact blk_keepP (blk_drewN BK333.out _) hkp (by decide)); have n7_ := Aside0.mk (by first | exact blk_keepP BK342.out hkp (by decide) | exact blk_keepP (blk_drewN BK342.out _) hkp (by decide)); have n8_ := Aside0.mk (hb); clear HO_326001; clear HO_334001; clear HO_334002; clear HO_343001; clear BK308; clear BK325; clear BK333; clear BK342; clear HB; have HO_326001 := n0_; have HO_334001 := n1_; have HO_334002 := n2_; have HO_343001 := n3_; have BK308 := n4_; have BK325 := n5_; have BK333 := n6_; have BK342 := n7_; have HB := n8_; clear n0_ n1_ n2_ n3_ n4_ n5_ n6_ n7_ n8_; (try clear hb); (try clear hkp); (try clear hy0); have hcz130_0 : w129.cell? ⟨gb342, 0, none⟩ = some (.int .i64 t337) := (blk_cell BK342.out 0).trans rfl; have hcz130_1 : w129.cell? ⟨gb342, 1, none⟩ = some (.slice Ao48 t338.length co48) := (blk_cell BK342.out 1).trans rfl; have hfz130_0 := blk_frozen BK342.out 0; have hfz130_1 := blk_frozen BK342.out 1) | ((with_reducible refine gate_callee (f := 15) rfl ?_); refine goesL_ (some 86) rfl rfl Try.func15 (by kernel_rfl) rfl #[.agg #[.int .i64 t337, .slice Ao48 t363.length co48], .int .i64 1] rfl (by (try simp only [List.map_toArray, List.map_cons, List.map_nil]); first | done | (rw [show t363.length = t338.length from (Kd.S_reads' HO_343001.out).1.symm] <;> rfl) | rfl | (simp only [List.length_drop, List.length_take]; rfl)) ?_; (with_reducible refine (laws_heldCnf.calls kj75 t337 _ _ t363 1 t364 _ ?side1 ?side2 A111.out).mono ?_); (case side1 => repeat (first | exact (Kd.S_reads' HO_343001.out).2.2 | (with_reducible refine Kd.C_alloc ?_ _) | (with_reducible refine Kd.C_drewN ?_ _) | (with_reducible refine Kd.C_drew ?_))); (case side2 => rw [show t363.length = t338.length from (Kd.S_reads' HO_343001.out).1.symm]; exact (Kd.S_reads' HO_343001.out).2.1); rintro e w131 ⟨rfl, hb⟩; refine ⟨_, rfl, ?_⟩; have n0_ := Aside0.mk (Kd.V_below (by (with_reducible repeat (first | apply Kd.V_alloc | apply Kd.V_drewN | apply Kd.V_drew)); exact HO_326001.out) hb); have n1_ := Aside0.mk (Kd.R_below (qR HO_334001.out) hb); have n2_ := Aside0.mk (Kd.R_below (qR HO_334002.out) hb); have n3_ := Aside0.mk (Kd.S_below (by (with_reducible repeat (first | apply Kd.S_alloc | apply Kd.S_drewN | apply Kd.S_drew)); exact HO_343001.out) hb); have n4_ := Aside0.mk (blk_below (g := gb308) (o := .cells #[.int .i64 a0_0, .slice A0_1 l0_1.length c0_1, .slice A0_2 l0_2.length c0_2] 25 (0, 0)) (qK BK308.out) hb); have n5_ := Aside0.mk (blk_below (g := gb325) (o := .cells #[.int .i64 t320, .slice Ao30 t321.length co30] 30 (0, 0)) (qK BK325.out) hb); have n6_ := Aside0.mk (blk_below (g := gb333) (o := .cells #[.int .i64 t326, .slice Ao37 t357.length co37, .slice Ao38 t358.length co38] 35 (0, 0)) (qK BK333.out) hb); have n7_ := Aside0.mk (blk_below (g := gb342) (o := .cells #[.int .i64 t337, .slice Ao48 t338.length co48] 30 (0, 0)) (qK BK342.out) hb); have n8_ := Aside0.mk (below_step (qB) hb); clear HO_326001; clear HO_334001; clear HO_334002; clear HO_343001; clear BK308; clear BK325; clear BK333; clear BK342; clear HB; have HO_326001 := n0_; have HO_334001 := n1_; have HO_334002 := n2_; have HO_343001 := n3_; have BK308 := n4_; have BK325 := n5_; have BK333 := n6_; have BK342 := n7_; have HB := n8_; clear n0_ n1_ n2_ n3_ n4_ n5_ n6_ n7_ n8_; (try clear hb); (try clear hb2); (try clear hk); (try clear hi); have hnb132 := NB308_325.out; have hnc132 := NB325_308.out; have hnb133 := NB308_333.out; have hnc133 := NB333_308.out; have hcz134_0 : w131.cell? ⟨gb308, 0, none⟩ = some (.int .i64 a0_0) := (blk_cell BK308.out 0).trans rfl; have hcz134_1 : w131.cell? ⟨gb308, 1, none⟩ = some (.slice A0_1 l0_1.length c0_1) := (blk_cell BK308.out 1).trans rfl; have hcz134_2 : w131.cell? ⟨gb308, 2, none⟩ = some (.slice A0_2 l0_2.length c0_2) := (blk_cell BK308.out 2).trans rfl; have hfz134_0 := blk_frozen BK308.out 0; have hfz134_1 := blk_frozen BK308.out 1; have hfz134_2 := blk_frozen BK308.out 2) | ((with_reducible refine gate_callee (f := 6) rfl ?_); refine goesL_ (some 94) rfl rfl Try.func6 (by kernel_rfl) rfl #[.agg #[.int .i64 a0_0, .slice A0_1 l0_1.length c0_1, .slice A0_2 l0_2.length c0_2]] rfl qG ?_; (with_reducible refine (laws_toCircuit.calls kj75 a0_0 _ _ l0_1 _ _ l0_2 t365 t366 t369 _ ?side1 ?side2 ?side3 ?side4 A121.out).mono ?_); (case side1 => exact qC (Kd.C_below HR0_1.out HB.out)); (case side2 => exact HC0_1.out); (case side3 => exact qC (Kd.C_below HR0_2.out HB.out)); (case side4 => exact HC0_2.out); rintro e w135 ⟨v367, v370, rfl, ho0, ho1, hb⟩; refine ⟨_, rfl, ?_⟩; have n0_ := Aside0.mk (Kd.V_mono (Kd.V_told (Kd.V_told (Kd.V_old (by (with_reducible repeat (first | apply Kd.V_alloc | apply Kd.V_drewN | apply Kd.V_drew)); exact HO_326001.out) hb) (Kd.R_base ho0)) (Kd.R_base ho1)) (fun _ h_ => h_.1)); have n1_ := Aside0.mk (Kd.R_elder' (qR HO_334001.out) (Kd.R_base ho0) hb); have n2_ := Aside0.mk (Kd.R_elder' (qR HO_334002.out) (Kd.R_base ho1) hb); have n3_ := Aside0.mk (Kd.S_elder' (by (with_reducible repeat (first | apply Kd.S_alloc | apply Kd.S_drewN | apply Kd.S_drew)); exact HO_343001.out) (Kd.R_base ho1) hb); have n4_ := Aside0.mk (Kd.R_lower (Kd.R_new' ho0 (Kd.R_lt (qR HO_334001.out))) (below_size (qB))); have n5_ := Aside0.mk (Kd.R_lower (Kd.R_new' ho1 (Kd.R_lt (qR HO_334002.out))) (below_size (qB))); have n6_ := Aside0.mk (blk_below (g := gb308) (o := .cells #[.int .i64 a0_0, .slice A0_1 l0_1.length c0_1, .slice A0_2 l0_2.length c0_2] 25 (0, 0)) (qK BK308.out) hb); have n7_ := Aside0.mk (blk_below (g := gb325) (o := .cells #[.int .i64 t320, .slice Ao30 t321.length co30] 30 (0, 0)) (qK BK325.out) hb); have n8_ := Aside0.mk (blk_below (g := gb333) (o := .cells #[.int .i64 t326, .slice Ao37 t357.length co37, .slice Ao38 t358.length co38] 35 (0, 0)) (qK BK333.out) hb); have n9_ := Aside0.mk (blk_below (g := gb342) (o := .cells #[.int .i64 t337, .slice Ao48 t338.length co48] 30 (0, 0)) (qK BK342.out) hb); have n10_ := Aside0.mk (below_step (qB) hb); clear HO_326001; clear HO_334001; clear HO_334002; clear HO_343001; clear BK308; clear BK325; clear BK333; clear BK342; clear HB; have HO_326001 := n0_; have HO_334001 := n1_; have HO_334002 := n2_; have HO_343001 := n3_; have HO368 := n4_; have HO371 := n5_; have BK308 := n6_; have BK325 := n7_; have BK333 := n8_; have BK342 := n9_; have HB := n10_; clear n0_ n1_ n2_ n3_ n4_ n5_ n6_ n7_ n8_ n9_ n10_; (try clear hb); (try clear hb2); (try clear hk); (try clear hi); (try clear ho0); (try clear ho1)) | ((with_reducible refine gate_callee (f := 7) rfl ?_); refine goesL_ (some 96) rfl rfl Try.func7 (by kernel_rfl) rfl #[.slice A1 l1.length c1] rfl qG ?_; (with_reducible refine (laws_toBoolS.calls kj75 _ _ l1 t372 _ ?side1 ?side2 A122.out).mono ?_); (case side1 => exact qC (Kd.C_below HR1.out HB.out)); (case side2 => exact HC1.out); rintro e w136 ⟨v373, rfl, ho0, hb⟩; refine ⟨_, rfl, ?_⟩; have n0_ := Aside0.mk (Kd.V_elder' (by (with_reducible repeat (first | apply Kd.V_alloc | apply Kd.V_drewN | apply Kd.V_drew)); exact HO_326001.out) (Kd.R_base ho0) hb); have n1_ := Aside0.mk (Kd.R_below (qR HO_334001.out) hb); have n2_ := Aside0.mk (Kd.R_below (qR HO_334002.out) hb); have n3_ := Aside0.mk (Kd.S_below (by (with_reducible repeat (first | apply Kd.S_alloc | apply Kd.S_drewN | apply Kd.S_drew)); exact HO_343001.out) hb); have n4_ := Aside0.mk (Kd.R_below (qR HO368.out) hb); have n5_ := Aside0.mk (Kd.R_below (qR HO371.out) hb); have n6_ := Aside0.mk (Kd.R_lower ho0 (below_size (qB))); have n7_ := Aside0.mk (blk_below (g := gb308) (o := .cells #[.int .i64 a0_0, .slice A0_1 l0_1.length c0_1, .slice A0_2 l0_2.length c0_2] 25 (0, 0)) (qK BK308.out) hb); have n8_ := Aside0.mk (blk_below (g := gb325) (o := .cells #[.int .i64 t320, .slice Ao30 t321.length co30] 30 (0, 0)) (qK BK325.out) hb); have n9_ := Aside0.mk (blk_below (g := gb333) (o := .cells #[.int .i64 t326, .slice Ao37 t357.length co37, .slice Ao38 t358.length co38] 35 (0, 0)) (qK BK333.out) hb); have n10_ := Aside0.mk (blk_below (g := gb342) (o := .cells #[.int .i64 t337, .slice Ao48 t338.length co48] 30 (0, 0)) (qK BK342.out) hb); have n11_ := Aside0.mk (below_step (qB) hb); clear HO_326001; clear HO_334001; clear HO_334002; clear HO_343001; clear HO368; clear HO371; clear BK308; clear BK325; clear BK333; clear BK342; clear HB; have HO_326001 := n0_; have HO_334001 := n1_; have HO_334002 := n2_; have HO_343001 := n3_; have HO368 := n4_; have HO371 := n5_; have HO374 := n6_; have BK308 := n7_; have BK325 := n8_; have BK333 := n9_; have BK342 := n10_; have HB := n11_; clear n0_ n1_ n2_ n3_ n4_ n5_ n6_ n7_ n8_ n9_ n10_ n11_; (try clear hb); (try clear hb2); (try clear hk); (try clear hi); (try clear ho0); obtain ⟨Ao137, co137, eo137⟩ := Kd.R_slice HO368.out; subst eo137; obtain ⟨Ao138, co138, eo138⟩ := Kd.R_slice HO371.out; subst eo138; obtain ⟨Ao139, co139, eo139⟩ := Kd.R_slice HO374.out; subst eo139) | ((with_reducible refine gate_callee (f := 8) rfl ?_); refine goesL_ (some 97) rfl rfl Try.func8 (by kernel_rfl) rfl #[.agg #[.int .i64 t365, .slice Ao137 t366.length co137, .slice Ao138 t369.length co138], .slice Ao139 t372.length co139] rfl qG ?_; (with_reducible refine (impl_CnfFor.calls kj75 t365 _ _ t366 _ _ t369 _ _ t372 t375 t376 t379 _ ?side1 ?side2 ?side3 ?side4 ?side5 ?side6 A123.out).mono ?_); (case side1 => repeat (first | exact (Kd.R_reads' HO368.out).2.2 | (with_reducible refine Kd.C_alloc ?_ _) | (with_reducible refine Kd.C_drewN ?_ _) | (with_reducible refine Kd.C_drew ?_))); (case side2 => exact (Kd.R_reads' HO368.out).2.1); (case side3 => repeat (first | exact (Kd.R_reads' HO371.out).2.2 | (with_reducible refine Kd.C_alloc ?_ _) | (with_reducible refine Kd.C_drewN ?_ _) | (with_reducible refine Kd.C_drew ?_))); (case side4 => exact (Kd.R_reads' HO371.out).2.1); (case side5 => repeat (first | exact (Kd.R_reads' HO374.out).2.2 | (with_reducible refine Kd.C_alloc ?_ _) | (with_reducible refine Kd.C_drewN ?_ _) | (with_reducible refine Kd.C_drew ?_))); (case side6 => exact (Kd.R_reads' HO374.out).2.1); rintro e w140 ⟨v377, rfl, ho0, hb⟩; refine ⟨_, rfl, ?_⟩; have n0_ := Aside0.mk (Kd.V_elder' (by (with_reducible repeat (first | apply Kd.V_alloc | apply Kd.V_drewN | apply Kd.V_drew)); exact HO_326001.out) (Kd.S_base ho0) hb); have n1_ := Aside0.mk (Kd.R_below (qR HO_334001.out) hb); have n2_ := Aside0.mk (Kd.R_below (qR HO_334002.out) hb); have n3_ := Aside0.mk (Kd.S_elder' (by (with_reducible repeat (first | apply Kd.S_alloc | apply Kd.S_drewN | apply Kd.S_drew)); exact HO_343001.out) (Kd.S_base ho0) hb); have n4_ := Aside0.mk (Kd.R_below (qR HO368.out) hb); have n5_ := Aside0.mk (Kd.R_below (qR HO371.out) hb); have n6_ := Aside0.mk (Kd.R_below (qR HO374.out) hb); have n7_ := Aside0.mk (Kd.S_lower (Kd.S_new' (Kd.S_new' (Kd.S_new' ho0 (Kd.R_lt (qR HO_334002.out))) (Kd.S_lt (by (with_reducible repeat (first | apply Kd.S_alloc | apply Kd.S_drewN | apply Kd.S_drew)); exact HO_343001.out))) (Kd.R_lt (qR HO371.out))) (below_size (qB))); have n8_ := Aside0.mk (blk_below (g := gb308) (o := .cells #[.int .i64 a0_0, .slice A0_1 l0_1.length c0_1, .slice A0_2 l0_2.length c0_2] 25 (0, 0)) (qK BK308.out) hb); have n9_ := Aside0.mk (blk_below (g := gb325) (o := .cells #[.int .i64 t320, .slice Ao30 t321.length co30] 30 (0, 0)) (qK BK325.out) hb); have n10_ := Aside0.mk (blk_below (g := gb333) (o := .cells #[.int .i64 t326, .slice Ao37 t357.length co37, .slice Ao38 t358.length co38] 35 (0, 0)) (qK BK333.out) hb); have n11_ := Aside0.mk (blk_below (g := gb342) (o := .cells #[.int .i64 t337, .slice Ao48 t338.length co48] 30 (0, 0)) (qK BK342.out) hb); have n12_ := Aside0.mk (below_step (qB) hb); clear HO_326001; clear HO_334001; clear HO_334002; clear HO_343001; clear HO368; clear HO371; clear HO374; clear BK308; clear BK325; clear BK333; clear BK342; clear HB; have HO_326001 := n0_; have HO_334001 := n1_; have HO_334002 := n2_; have HO_343001 := n3_; have HO368 := n4_; have HO371 := n5_; have HO374 := n6_; have HO378 := n7_; have BK308 := n8_; have BK325 := n9_; have BK333 := n10_; have BK342 := n11_; have HB := n12_; clear n0_ n1_ n2_ n3_ n4_ n5_ n6_ n7_ n8_ n9_ n10_ n11_ n12_; (try clear hb); (try clear hb2); (try clear hk); (try clear hi); (try clear ho0)) | ((with_reducible refine gate_dst (N := 15) rfl ?_); refine box_event ?hg (N := 15) ?hd (cs := #[.int .i64 0, .slice none 0 0]) (t := 30) ?hr ?_; (case hd => rfl); (case hg => rfl); (case hr => first | (go_simp; done) | (go_simp; rfl)); intro gb380 hg w141 hbox hb; have n0_ := Aside0.mk (Kd.V_below (Kd.V_elderB (by (with_reducible repeat (first | apply Kd.V_alloc | apply Kd.V_drewN | apply Kd.V_drew)); exact HO_326001.out) gb380 (Nat.le_of_eq hg.symm)) hb); have n1_ := Aside0.mk (Kd.R_below (qR HO_334001.out) hb); have n2_ := Aside0.mk (Kd.R_below (qR HO_334002.out) hb); have n3_ := Aside0.mk (Kd.S_below (by (with_reducible repeat (first | apply Kd.S_alloc | apply Kd.S_drewN | apply Kd.S_drew)); exact HO_343001.out) hb); have n4_ := Aside0.mk (Kd.R_below (qR HO368.out) hb); have n5_ := Aside0.mk (Kd.R_below (qR HO371.out) hb); have n6_ := Aside0.mk (Kd.R_below (qR HO374.out) hb); have n7_ := Aside0.mk (Kd.S_below (by (with_reducible repeat (first | apply Kd.S_alloc | apply Kd.S_drewN | apply Kd.S_drew)); exact HO378.out) hb); have n8_ := Aside0.mk (blk_below (g := gb308) (o := .cells #[.int .i64 a0_0, .slice A0_1 l0_1.length c0_1, .slice A0_2 l0_2.length c0_2] 25 (0, 0)) (qK BK308.out) hb); have n9_ := Aside0.mk (blk_below (g := gb325) (o := .cells #[.int .i64 t320, .slice Ao30 t321.length co30] 30 (0, 0)) (qK BK325.out) hb); have n10_ := Aside0.mk (blk_below (g := gb333) (o := .cells #[.int .i64 t326, .slice Ao37 t357.length co37, .slice Ao38 t358.length co38] 35 (0, 0)) (qK BK333.out) hb); have n11_ := Aside0.mk (blk_below (g := gb342) (o := .cells #[.int .i64 t337, .slice Ao48 t338.length co48] 30 (0, 0)) (qK BK342.out) hb); have n12_ := Aside0.mk (below_step (qB) hb); have n13_ := Aside0.mk (hbox); have n14_ := Aside0.mk ((by rw [hg]; exact (below_size (qB)) : w.heap.size ≤ gb380)); have n15_ := Aside0.mk ((by rw [hg]; exact (below_size (qB)) : w.heap.size ≤ gb380)); have n16_ := Aside0.mk ((by rw [hg]; exact Nat.ne_of_lt (blk_lt (g := gb308) (o := .cells #[.int .i64 a0_0, .slice A0_1 l0_1.length c0_1, .slice A0_2 l0_2.length c0_2] 25 (0, 0)) (qK BK308.out)) : gb308 ≠ gb380)); have n17_ := Aside0.mk ((by rw [hg]; exact Nat.ne_of_gt (blk_lt (g := gb308) (o := .cells #[.int .i64 a0_0, .slice A0_1 l0_1.length c0_1, .slice A0_2 l0_2.length c0_2] 25 (0, 0)) (qK BK308.out)) : gb380 ≠ gb308)); have n18_ := Aside0.mk ((by rw [hg]; exact Nat.ne_of_lt (blk_lt (g := gb325) (o := .cells #[.int .i64 t320, .slice Ao30 t321.length co30] 30 (0, 0)) (qK BK325.out)) : gb325 ≠ gb380)); have n19_ := Aside0.mk ((by rw [hg]; exact Nat.ne_of_gt (blk_lt (g := gb325) (o := .cells #[.int .i64 t320, .slice Ao30 t321.length co30] 30 (0, 0)) (qK BK325.out)) : gb380 ≠ gb325)); have n20_ := Aside0.mk ((by rw [hg]; exact Nat.ne_of_lt (blk_lt (g := gb333) (o := .cells #[.int .i64 t326, .slice Ao37 t357.length co37, .slice Ao38 t358.length co38] 35 (0, 0)) (qK BK333.out)) : gb333 ≠ gb380)); have n21_ := Aside0.mk ((by rw [hg]; exact Nat.ne_of_gt (blk_lt (g := gb333) (o := .cells #[.int .i64 t326, .slice Ao37 t357.length co37, .slice Ao38 t358.length co38] 35 (0, 0)) (qK BK333.out)) : gb380 ≠ gb333)); have n22_ := Aside0.mk ((by rw [hg]; exact Nat.ne_of_lt (blk_lt (g := gb342) (o := .cells #[.int .i64 t337, .slice Ao48 t338.length co48] 30 (0, 0)) (qK BK342.out)) : gb342 ≠ gb380)); have n23_ := Aside0.mk ((by rw [hg]; exact Nat.ne_of_gt (blk_lt (g := gb342) (o := .cells #[.int .i64 t337, .slice Ao48 t338.length co48] 30 (0, 0)) (qK BK342.out)) : gb380 ≠ gb342)); clear HO_326001; clear HO_334001; clear HO_334002; clear HO_343001; clear HO368; clear HO371; clear HO374; clear HO378; clear BK308; clear BK325; clear BK333; clear BK342; clear HB; have HO_326001 := n0_; have HO_334001 := n1_; have HO_334002 := n2_; have HO_343001 := n3_; have HO368 := n4_; have HO371 := n5_; have HO374 := n6_; have HO378 := n7_; have BK308 := n8_; have BK325 := n9_; have BK333 := n10_; have BK342 := n11_; have HB := n12_; have BK380 := n13_; have GW380 := n14_; have GE380 := n15_; have NB308_380 := n16_; have NB380_308 := n17_; have NB325_380 := n18_; have NB380_325 := n19_; have NB333_380 := n20_; have NB380_333 := n21_; have NB342_380 := n22_; have NB380_342 := n23_; clear n0_ n1_ n2_ n3_ n4_ n5_ n6_ n7_ n8_ n9_ n10_ n11_ n12_ n13_ n14_ n15_ n16_ n17_ n18_ n19_ n20_ n21_ n22_ n23_; clear hb hbox hg; have hnb142 := NB380_308.out; have hnc142 := NB308_380.out; have hnb143 := NB380_325.out; have hnc143 := NB325_380.out; have hnb144 := NB380_333.out; have hnc144 := NB333_380.out; have hnb145 := NB380_342.out; have hnc145 := NB342_380.out; have hcz146_0 : w141.cell? ⟨gb380, 0, none⟩ = some (.int .i64 0) := (blk_cell BK380.out 0).trans rfl; have hcz146_1 : w141.cell? ⟨gb380, 1, none⟩ = some (.slice none 0 0) := (blk_cell BK380.out 1).trans rfl; have hfz146_0 := blk_frozen BK380.out 0; have hfz146_1 := blk_frozen BK380.out 1; obtain ⟨Ao147, co147, eo147⟩ := Kd.S_slice HO378.out; subst eo147))
             (try simp only [Act.put, List.setIfInBounds_toArray, List.set_cons_zero, List.set_cons_succ])
             go_cut [108] (fun v108 wc => ∃ (kq : Nat) (x108_123 : Bool), v108 = .bool x108_123 ∧ Aside0 (laws_FnExactCnfFor.j2 kq t362 x108_123 t337 t363 = some true) ∧ Aside0 (kq ≤ kj75) ∧ Aside0 (Kd.V (Kd.slice 3 (Kd.int .i64)) 23 wc w.heap.size (fun k_ => some k_ ≠ ((.slice Ao37 t357.length co37) : Value).ownBlock ∧ some k_ ≠ ((.slice Ao38 t358.length co38) : Value).ownBlock ∧ (some k_ ≠ ((.slice Ao48 t338.length co48) : Value).ownBlock ∧ k_ < N0) ∧ some k_ ≠ ((.slice Ao147 t376.length co147) : Value).ownBlock ∧ k_ ≠ gb308 ∧ k_ ≠ gb325 ∧ k_ ≠ gb333 ∧ k_ ≠ gb342 ∧ k_ ≠ gb380) (.slice Ao30 t321.length co30) t321) ∧ Aside0 (Kd.R k54 54 wc w.heap.size (fun _ => True) (.slice Ao37 t357.length co37) t357) ∧ Aside0 (Kd.R (Kd.int .i64) 3 wc w.heap.size (fun _ => True) (.slice Ao38 t358.length co38) t358) ∧ Aside0 (Kd.S (Kd.slice 3 (Kd.int .i64)) 23 wc w.heap.size (fun k_ => (some k_ ≠ ((.slice Ao38 t358.length co38) : Value).ownBlock ∧ N0 ≤ k_) ∧ some k_ ≠ ((.slice Ao147 t376.length co147) : Value).ownBlock) (.slice Ao48 t338.length co48) t363) ∧ Aside0 (Kd.S (Kd.slice 3 (Kd.int .i64)) 23 wc w.heap.size (fun k_ => some k_ ≠ ((.slice Ao38 t358.length co38) : Value).ownBlock ∧ some k_ ≠ ((.slice Ao48 t338.length co48) : Value).ownBlock) (.slice Ao147 t376.length co147) t376) ∧ Aside0 (wc.heap[gb308]? = some (.cells #[.int .i64 a0_0, (.slice A0_1 l0_1.length c0_1), (.slice A0_2 l0_2.length c0_2)] 25 (0, 0))) ∧ Aside0 (wc.heap[gb325]? = some (.cells #[.int .i64 t320, (.slice Ao30 t321.length co30)] 30 (0, 0))) ∧ Aside0 (wc.heap[gb333]? = some (.cells #[.int .i64 t326, (.slice Ao37 t357.length co37), (.slice Ao38 t358.length co38)] 35 (0, 0))) ∧ Aside0 (wc.heap[gb342]? = some (.cells #[.int .i64 t337, (.slice Ao48 t338.length co48)] 30 (0, 0))) ∧ Aside0 (wc.heap[gb380]? = some (.cells #[.int .i64 t375, (.slice Ao147 t376.length co147)] 30 (0, 0))) ∧ Aside0 (Below w.heap.size w wc))
             case first =>
              have H := HC124.out
              clear HC124
              replace H := Option.bind_eq_some_iff.mp H
              obtain ⟨t381, A1480, H⟩ := H
              replace H : (if t381 = true then (laws_FnExactCnfFor.j2 kj75 t362 (t379 != t324) t337 t363) else (laws_FnExactCnfFor.j2 kj75 t362 true t337 t363)) = some true := H
              have A148 := Aside0.mk A1480
              clear A1480
              by_cases c149 : t381 = true
              ·subst c149
               have H1 : (laws_FnExactCnfFor.j2 kj75 t362 (t379 != t324) t337 t363) = some true := by rw [if_pos rfl] at H; exact H
               clear H
               have H := H1
               clear H1
               have H' := Aside0.mk H
               clear H
               have hnb150 := NB380_308.out
               have hnc150 := NB308_380.out
               have hnb151 := NB380_325.out
               have hnc151 := NB325_380.out
               have hnb152 := NB380_333.out
               have hnc152 := NB333_380.out
               have hnb153 := NB380_342.out
               have hnc153 := NB342_380.out
               have hcz154_0 : w141.cell? ⟨gb380, 0, none⟩ = some (.int .i64 0) := (blk_cell BK380.out 0).trans rfl
               have hcz154_1 : w141.cell? ⟨gb380, 1, none⟩ = some (.slice none 0 0) := (blk_cell BK380.out 1).trans rfl
               have hfz154_0 := blk_frozen BK380.out 0
               have hfz154_1 := blk_frozen BK380.out 1
               have hnb155 := NB325_308.out
               have hnc155 := NB308_325.out
               have hnb156 := NB325_333.out
               have hnc156 := NB333_325.out
               have hnb157 := NB325_342.out
               have hnc157 := NB342_325.out
               have hcz158_0 : w141.cell? ⟨gb325, 0, none⟩ = some (.int .i64 t320) := (blk_cell BK325.out 0).trans rfl
               have hcz158_1 : w141.cell? ⟨gb325, 1, none⟩ = some (.slice Ao30 t321.length co30) := (blk_cell BK325.out 1).trans rfl
               have hfz158_0 := blk_frozen BK325.out 0
               have hfz158_1 := blk_frozen BK325.out 1
               go_wp2_with (first | ((with_reducible refine gate_callee (f := 9) rfl ?_); refine goesL_ (some 102) rfl rfl Try.func9 (by kernel_rfl) rfl #[.agg #[.int .i64 t375, .slice Ao147 t376.length co147], .agg #[.int .i64 t320, .slice Ao30 t321.length co30]] rfl qG ?_; (with_reducible refine (laws_eqCnf.calls kj75 t375 _ _ t376 t320 _ _ t321 true _ ?side1 ?side2 ?side3 ?side4 A148.out).mono ?_); (case side1 => refine (Kd.S_reads' (e := 23) (base := w.heap.size) (ok := fun k_ => (((True ∧ some k_ ≠ (.slice Ao38 t358.length co38 : Value).ownBlock) ∧ some k_ ≠ (.slice Ao48 t338.length co48 : Value).ownBlock) ∧ some k_ ≠ (.slice Ao138 t369.length co138 : Value).ownBlock)) (n := t376.length) (c := co147) ?_).2.2; exact (by (with_reducible repeat (first | apply Kd.S_alloc | apply Kd.S_drewN | apply Kd.S_drew)); exact (Kd.S_mono (Kd.S_far (p := ⟨gb380, 1, none⟩) (Kd.S_far (p := ⟨gb380, 0, none⟩) (Kd.S_types HO378.out BK380.out (by decide)) (fun _ hk => hk.2) (.int .i64 t375)) (fun _ hk => hk.2) (.slice Ao147 t376.length co147)) (fun _ h_ => h_.1)))); (case side2 => exact (Kd.S_reads' HO378.out).2.1); (case side3 => refine (Kd.V_reads' (e := 23) (base := w.heap.size) (ok := fun k_ => ((((((some k_ ≠ (.slice Ao37 t357.length co37 : Value).ownBlock ∧ (some k_ ≠ (.slice Ao38 t358.length co38 : Value).ownBlock ∧ ((some k_ ≠ (.slice Ao48 t338.length co48 : Value).ownBlock ∧ k_ < N0) ∧ (k_ ≠ gb308 ∧ (k_ ≠ gb325 ∧ (k_ ≠ gb333 ∧ k_ ≠ gb342)))))) ∧ some k_ ≠ (.slice Ao137 t366.length co137 : Value).ownBlock) ∧ some k_ ≠ (.slice Ao138 t369.length co138 : Value).ownBlock) ∧ some k_ ≠ (.slice Ao139 t372.length co139 : Value).ownBlock) ∧ some k_ ≠ (.slice Ao147 t376.length co147 : Value).ownBlock) ∧ k_ ≠ gb380)) (n := t321.length) (c := co30) ?_).2.2; exact (by (with_reducible repeat (first | apply Kd.V_alloc | apply Kd.V_drewN | apply Kd.V_drew)); exact (Kd.V_mono (Kd.V_far (p := ⟨gb380, 1, none⟩) (Kd.V_far (p := ⟨gb380, 0, none⟩) (Kd.V_mono HO_326001.out (fun k_ hk => (⟨hk, hk.2⟩ : _ ∧ k_ ≠ gb380))) (fun _ hk => hk.2) (.int .i64 t375)) (fun _ hk => hk.2) (.slice Ao147 t376.length co147)) (fun _ h_ => h_.1)))); (case side4 => exact (Kd.V_reads' HO_326001.out).2.1); rintro e w159 ⟨rfl, hb⟩; refine ⟨_, rfl, ?_⟩; have n0_ := Aside0.mk (Kd.V_below (by (with_reducible repeat (first | apply Kd.V_alloc | apply Kd.V_drewN | apply Kd.V_drew)); exact (Kd.V_mono (Kd.V_far (p := ⟨gb380, 1, none⟩) (Kd.V_far (p := ⟨gb380, 0, none⟩) (Kd.V_mono HO_326001.out (fun k_ hk => (⟨hk, hk.2⟩ : _ ∧ k_ ≠ gb380))) (fun _ hk => hk.2) (.int .i64 t375)) (fun _ hk => hk.2) (.slice Ao147 t376.length co147)) (fun _ h_ => h_.1))) hb); have n1_ := Aside0.mk (Kd.R_below (by (with_reducible repeat (first | apply Kd.R_alloc | apply Kd.R_drewN | apply Kd.R_drew)); exact (Kd.R_mono (Kd.R_far (p := ⟨gb380, 1, none⟩) (Kd.R_far (p := ⟨gb380, 0, none⟩) (Kd.R_types HO_334001.out BK380.out (by decide)) (fun _ hk => hk.2) (.int .i64 t375)) (fun _ hk => hk.2) (.slice Ao147 t376.length co147)) (fun _ h_ => h_.1))) hb); have n2_ := Aside0.mk (Kd.R_below (by (with_reducible repeat (first | apply Kd.R_alloc | apply Kd.R_drewN | apply Kd.R_drew)); exact (Kd.R_mono (Kd.R_far (p := ⟨gb380, 1, none⟩) (Kd.R_far (p := ⟨gb380, 0, none⟩) (Kd.R_types HO_334002.out BK380.out (by decide)) (fun _ hk => hk.2) (.int .i64 t375)) (fun _ hk => hk.2) (.slice Ao147 t376.length co147)) (fun _ h_ => h_.1))) hb); have n3_ := Aside0.mk (Kd.S_below (by (with_reducible repeat (first | apply Kd.S_alloc | apply Kd.S_drewN | apply Kd.S_drew)); exact (Kd.S_mono (Kd.S_far (p := ⟨gb380, 1, none⟩) (Kd.S_far (p := ⟨gb380, 0, none⟩) (Kd.S_types HO_343001.out BK380.out (by decide)) (fun _ hk => hk.2) (.int .i64 t375)) (fun _ hk => hk.2) (.slice Ao147 t376.length co147)) (fun _ h_ => h_.1))) hb); have n4_ := Aside0.mk (Kd.R_below (by (with_reducible repeat (first | apply Kd.R_alloc | apply Kd.R_drewN | apply Kd.R_drew)); exact (Kd.R_mono (Kd.R_far (p := ⟨gb380, 1, none⟩) (Kd.R_far (p := ⟨gb380, 0, none⟩) (Kd.R_types HO368.out BK380.out (by decide)) (fun _ hk => hk.2) (.int .i64 t375)) (fun _ hk => hk.2) (.slice Ao147 t376.length co147)) (fun _ h_ => h_.1))) hb); have n5_ := Aside0.mk (Kd.R_below (by (with_reducible repeat (first | apply Kd.R_alloc | apply Kd.R_drewN | apply Kd.R_drew)); exact (Kd.R_mono (Kd.R_far (p := ⟨gb380, 1, none⟩) (Kd.R_far (p := ⟨gb380, 0, none⟩) (Kd.R_types HO371.out BK380.out (by decide)) (fun _ hk => hk.2) (.int .i64 t375)) (fun _ hk => hk.2) (.slice Ao147 t376.length co147)) (fun _ h_ => h_.1))) hb); have n6_ := Aside0.mk (Kd.R_below (by (with_reducible repeat (first | apply Kd.R_alloc | apply Kd.R_drewN | apply Kd.R_drew)); exact (Kd.R_mono (Kd.R_far (p := ⟨gb380, 1, none⟩) (Kd.R_far (p := ⟨gb380, 0, none⟩) (Kd.R_types HO374.out BK380.out (by decide)) (fun _ hk => hk.2) (.int .i64 t375)) (fun _ hk => hk.2) (.slice Ao147 t376.length co147)) (fun _ h_ => h_.1))) hb); have n7_ := Aside0.mk (Kd.S_below (by (with_reducible repeat (first | apply Kd.S_alloc | apply Kd.S_drewN | apply Kd.S_drew)); exact (Kd.S_mono (Kd.S_far (p := ⟨gb380, 1, none⟩) (Kd.S_far (p := ⟨gb380, 0, none⟩) (Kd.S_types HO378.out BK380.out (by decide)) (fun _ hk => hk.2) (.int .i64 t375)) (fun _ hk => hk.2) (.slice Ao147 t376.length co147)) (fun _ h_ => h_.1))) hb); have n8_ := Aside0.mk (blk_below (g := gb308) (o := .cells #[.int .i64 a0_0, .slice A0_1 l0_1.length c0_1, .slice A0_2 l0_2.length c0_2] 25 (0, 0)) (qF BK308.out) hb); have n9_ := Aside0.mk (blk_below (g := gb325) (o := .cells #[.int .i64 t320, .slice Ao30 t321.length co30] 30 (0, 0)) (qF BK325.out) hb); have n10_ := Aside0.mk (blk_below (g := gb333) (o := .cells #[.int .i64 t326, .slice Ao37 t357.length co37, .slice Ao38 t358.length co38] 35 (0, 0)) (qF BK333.out) hb); have n11_ := Aside0.mk (blk_below (g := gb342) (o := .cells #[.int .i64 t337, .slice Ao48 t338.length co48] 30 (0, 0)) (qF BK342.out) hb); have n12_ := Aside0.mk (blk_below (g := gb380) (o := .cells #[.int .i64 t375, .slice Ao147 t376.length co147] 30 (0, 0)) (by (with_reducible repeat (first | refine blk_drewN ?_ _ | refine blk_drew ?_ | refine blk_alloc ?_ _)); refine blk_put (cs := #[.int .i64 t375, .slice none 0 0]) ?_ 1 _ rfl; refine blk_put (cs := #[.int .i64 0, .slice none 0 0]) ?_ 0 _ rfl; exact qK BK380.out) hb); have n13_ := Aside0.mk (below_step (qB) hb); clear HO_326001; clear HO_334001; clear HO_334002; clear HO_343001; clear HO368; clear HO371; clear HO374; clear HO378; clear BK308; clear BK325; clear BK333; clear BK342; clear BK380; clear HB; have HO_326001 := n0_; have HO_334001 := n1_; have HO_334002 := n2_; have HO_343001 := n3_; have HO368 := n4_; have HO371 := n5_; have HO374 := n6_; have HO378 := n7_; have BK308 := n8_; have BK325 := n9_; have BK333 := n10_; have BK342 := n11_; have BK380 := n12_; have HB := n13_; clear n0_ n1_ n2_ n3_ n4_ n5_ n6_ n7_ n8_ n9_ n10_ n11_ n12_ n13_; (try clear hb); (try clear hb2); (try clear hk); (try clear hi)))
               go_meet
               case rel => exact ⟨_, ((t379 != t324)), qS, H', ⟨by have := HJ15.out; have := HJ75.out; first | omega | exact Nat.le_refl _⟩, ⟨by (try simp only [hl334001_75]); (try simp only [hl334002_75]); (with_reducible repeat (first | apply Kd.V_alloc | apply Kd.V_drewN | apply Kd.V_drew)); exact Kd.V_mono HO_326001.out (fun _ hk => ⟨hk.1.1.1.1.1.1, ⟨hk.1.1.1.1.1.2.1, ⟨hk.1.1.1.1.1.2.2.1, ⟨hk.1.2, ⟨hk.1.1.1.1.1.2.2.2.1, ⟨hk.1.1.1.1.1.2.2.2.2.1, ⟨hk.1.1.1.1.1.2.2.2.2.2.1, ⟨hk.1.1.1.1.1.2.2.2.2.2.2, hk.2⟩⟩⟩⟩⟩⟩⟩⟩)⟩, ⟨by (try simp only [hl334001_75]); (try simp only [hl334002_75]); (with_reducible repeat (first | apply Kd.R_alloc | apply Kd.R_drewN | apply Kd.R_drew)); exact Kd.R_mono HO_334001.out (fun _ hk => trivial)⟩, ⟨by (try simp only [hl334001_75]); (try simp only [hl334002_75]); (with_reducible repeat (first | apply Kd.R_alloc | apply Kd.R_drewN | apply Kd.R_drew)); exact Kd.R_mono HO_334002.out (fun _ hk => trivial)⟩, ⟨by (try simp only [hl334001_75]); (try simp only [hl334002_75]); (with_reducible repeat (first | apply Kd.S_alloc | apply Kd.S_drewN | apply Kd.S_drew)); exact Kd.S_mono HO_343001.out (fun _ hk => ⟨hk.1.1, hk.2⟩)⟩, ⟨by (try simp only [hl334001_75]); (try simp only [hl334002_75]); (with_reducible repeat (first | apply Kd.S_alloc | apply Kd.S_drewN | apply Kd.S_drew)); exact Kd.S_mono HO378.out (fun _ hk => ⟨hk.1.1.2, hk.1.2⟩)⟩, ⟨by (try simp only [hl334001_75]); (try simp only [hl334002_75]); exact qK BK308.out⟩, ⟨by (try simp only [hl334001_75]); (try simp only [hl334002_75]); exact qK BK325.out⟩, ⟨by (try simp only [hl334001_75]); (try simp only [hl334002_75]); exact qK BK333.out⟩, ⟨by (try simp only [hl334001_75]); (try simp only [hl334002_75]); exact qK BK342.out⟩, ⟨by (try simp only [hl334001_75]); (try simp only [hl334002_75]); exact qK BK380.out⟩, ⟨qB⟩⟩
              ·replace c149 := Bool.eq_false_iff.mpr c149
               subst c149
               have H1 : (laws_FnExactCnfFor.j2 kj75 t362 true t337 t363) = some true := by rw [if_neg (show ¬ (false = true) by decide)] at H; exact H
               exact absurd H1 (by cases kj75 <;> simp [laws_FnExactCnfFor.j2])
             case rest =>
              clear HC124
              try clear c1
              try clear c2
              try clear p2
              try clear c3
              try clear c3b0
              try clear c3b1
              try clear c4
              try clear c5
              try clear c6
              try clear c6b0
              try clear c7
              try clear c8
              try clear c9
              try clear c10
              try clear c11
              try clear c12
              try clear c13
              try clear c14
              try clear c15
              try clear c16
              try clear c28
              try clear c34
              try clear c35
              try clear c44
              try clear c45
              try clear c46
              try clear c50
              try clear c51
              try clear c52
              try clear c53
              try clear c55
              try clear c56
              try clear c59
              try clear c60
              try clear c61
              try clear c63
              try clear c64
              try clear c67
              try clear c70
              try clear c73
              try clear c84
              try clear c85
              try clear c86
              try clear c90
              try clear c90b0
              try clear c92
              try clear c93
              try clear c94
              try clear c95
              try clear c97
              try clear c98
              try clear c101
              try clear c102
              try clear c103
              try clear c105
              try clear c106
              try clear c109
              try clear c112
              try clear c112b0
              try clear c113
              try clear c114
              try clear c115
              try clear c120
              try clear c120b0
              try clear c120b1
              try clear c125
              try clear c126
              try clear c127
              try clear c132
              try clear c133
              try clear c142
              try clear c143
              try clear c144
              try clear c145
              try clear c149
              try clear c150
              try clear c151
              try clear c152
              try clear c153
              try clear c155
              try clear c156
              try clear c157
              try clear c160
              try clear c161
              try clear c162
              try clear c163
              try clear c165
              try clear c166
              try clear c167
              try clear hcz104_0
              try clear hcz104_1
              try clear hcz107_0
              try clear hcz107_1
              try clear hcz116_0
              try clear hcz116_1
              try clear hcz118_0
              try clear hcz118_1
              try clear hcz128_0
              try clear hcz128_1
              try clear hcz130_0
              try clear hcz130_1
              try clear hcz134_0
              try clear hcz134_1
              try clear hcz134_2
              try clear hcz146_0
              try clear hcz146_1
              try clear hcz154_0
              try clear hcz154_1
              try clear hcz158_0
              try clear hcz158_1
              try clear hcz164_0
              try clear hcz164_1
              try clear hcz168_0
              try clear hcz168_1
              try clear hcz18_0
              try clear hcz18_1
              try clear hcz18_2
              try clear hcz20_0
              try clear hcz20_1
              try clear hcz20_2
              try clear hcz29_0
              try clear hcz29_1
              try clear hcz31_0
              try clear hcz31_1
              try clear hcz31_2
              try clear hcz36_0
              try clear hcz36_1
              try clear hcz36_2
              try clear hcz40_0
              try clear hcz40_1
              try clear hcz40_2
              try clear hcz47_0
              try clear hcz47_1
              try clear hcz54_0
              try clear hcz54_1
              try clear hcz57_0
              try clear hcz57_1
              try clear hcz62_0
              try clear hcz62_1
              try clear hcz65_0
              try clear hcz65_1
              try clear hcz87_0
              try clear hcz87_1
              try clear hcz87_2
              try clear hcz8_0
              try clear hcz8_1
              try clear hcz8_2
              try clear hcz96_0
              try clear hcz96_1
              try clear hcz99_0
              try clear hcz99_1
              try clear hfz104_0
              try clear hfz104_1
              try clear hfz107_0
              try clear hfz107_1
              try clear hfz116_0
              try clear hfz116_1
              try clear hfz118_0
              try clear hfz118_1
              try clear hfz128_0
              try clear hfz128_1
              try clear hfz130_0
              try clear hfz130_1
              try clear hfz134_0
              try clear hfz134_1
              try clear hfz134_2
              try clear hfz146_0
              try clear hfz146_1
              try clear hfz154_0
              try clear hfz154_1
              try clear hfz158_0
              try clear hfz158_1
              try clear hfz164_0
              try clear hfz164_1
              try clear hfz168_0
              try clear hfz168_1
              try clear hfz18_0
              try clear hfz18_1
              try clear hfz18_2
              try clear hfz20_0
              try clear hfz20_1
              try clear hfz20_2
              try clear hfz29_0
              try clear hfz29_1
              try clear hfz31_0
              try clear hfz31_1
              try clear hfz31_2
              try clear hfz36_0
              try clear hfz36_1
              try clear hfz36_2
              try clear hfz40_0
              try clear hfz40_1
              try clear hfz40_2
              try clear hfz47_0
              try clear hfz47_1
              try clear hfz54_0
              try clear hfz54_1
              try clear hfz57_0
              try clear hfz57_1
              try clear hfz62_0
              try clear hfz62_1
              try clear hfz65_0
              try clear hfz65_1
              try clear hfz87_0
              try clear hfz87_1
              try clear hfz87_2
              try clear hfz8_0
              try clear hfz8_1
              try clear hfz8_2
              try clear hfz96_0
              try clear hfz96_1
              try clear hfz99_0
              try clear hfz99_1
              try clear p2
              obtain ⟨kq, x108_123, rfl, HA, HJ123, HO_326001, HO_334001, HO_334002, HO_343001, HO_381001, BK308, BK325, BK333, BK342, BK380, HB⟩ := hcut
              have hl343001_123 := (Kd.S_reads' HO_343001.out).1
              rw [hl343001_123] at HO_343001
              (try simp only [hl343001_123])
              (try simp only [hl343001_123] at BK308)
              (try simp only [hl343001_123] at BK325)
              (try simp only [hl343001_123] at BK333)
              (try simp only [hl343001_123] at BK342)
              (try simp only [hl343001_123] at BK380)
              (try simp only [hl343001_123] at HO_326001)
              (try simp only [hl343001_123] at HO_334001)
              (try simp only [hl343001_123] at HO_334002)
              (try simp only [hl343001_123] at HO_381001)
              cases kq with
              | zero => exact absurd HA.out (by simp [laws_FnExactCnfFor.j2])
              | succ kj123 =>
               have H := HA.out
               clear HA
               simp only [laws_FnExactCnfFor.j2] at H
               by_cases c170 : x108_123 = true
               ·subst c170
                have H1 : (some false) = some true := by rw [if_pos rfl] at H; exact H
                exact absurd H1 (by simp)
               ·replace c170 := Bool.eq_false_iff.mpr c170
                subst c170
                have H1 : ((laws_heldCnf.f kj123 t337 t363 1).bind fun t382 => (if t382 < 0 then (some false) else (if t382 = t362 then (some true) else (some false)))) = some true := by rw [if_neg (show ¬ (false = true) by decide)] at H; exact H
                clear H
                have H := H1
                clear H1
                replace H := Option.bind_eq_some_iff.mp H
                obtain ⟨t382, A1710, H⟩ := H
                replace H : (if t382 < 0 then (some false) else (if t382 = t362 then (some true) else (some false))) = some true := H
                have A171 := Aside0.mk A1710
                clear A1710
                by_cases c172 : t382 < 0
                ·rw [if_pos c172] at H
                 exact absurd H (by simp)
                ·rw [if_neg c172] at H
                 have c172b0 : decide (t382 < 0) = false := decide_eq_false c172
                 clear c172
                 by_cases c179 : t382 = t362
                 ·rw [if_pos c179] at H
                  have c179b0 : (t382 == t362) = true := beq_iff_eq.mpr c179
                  have c179b1 : (t382 != t362) = false := bne_eq_false_iff_eq.mpr c179
                  clear c179
                  have hnb180 := NB342_308.out
                  have hnc180 := NB308_342.out
                  have hnb181 := NB342_325.out
                  have hnc181 := NB325_342.out
                  have hnb182 := NB342_333.out
                  have hnc182 := NB333_342.out
                  have hnb183 := NB342_380.out
                  have hnc183 := NB380_342.out
                  have hcz184_0 : wc.cell? ⟨gb342, 0, none⟩ = some (.int .i64 t337) := (blk_cell BK342.out 0).trans rfl
                  have hcz184_1 : wc.cell? ⟨gb342, 1, none⟩ = some (.slice Ao48 t363.length co48) := (blk_cell BK342.out 1).trans rfl
                  have hfz184_0 := blk_frozen BK342.out 0
                  have hfz184_1 := blk_frozen BK342.out 1
                  go_wp2_with (first | ((with_reducible refine gate_callee (f := 15) rfl ?_); refine goesL_ (some 111) rfl rfl Try.func15 (by kernel_rfl) rfl #[.agg #[.int .i64 t337, .slice Ao48 t363.length co48], .int .i64 1] rfl qG ?_; (with_reducible refine (laws_heldCnf.calls kj123 t337 _ _ t363 1 t382 _ ?side1 ?side2 A171.out).mono ?_); (case side1 => repeat (first | exact (Kd.S_reads' HO_343001.out).2.2 | (with_reducible refine Kd.C_alloc ?_ _) | (with_reducible refine Kd.C_drewN ?_ _) | (with_reducible refine Kd.C_drew ?_))); (case side2 => exact (Kd.S_reads' HO_343001.out).2.1); rintro e w185 ⟨rfl, hb⟩; refine ⟨_, rfl, ?_⟩; have n0_ := Aside0.mk (Kd.V_below (by (with_reducible repeat (first | apply Kd.V_alloc | apply Kd.V_drewN | apply Kd.V_drew)); exact HO_326001.out) hb); have n1_ := Aside0.mk (Kd.R_below (qR HO_334001.out) hb); have n2_ := Aside0.mk (Kd.R_below (qR HO_334002.out) hb); have n3_ := Aside0.mk (Kd.S_below (by (with_reducible repeat (first | apply Kd.S_alloc | apply Kd.S_drewN | apply Kd.S_drew)); exact HO_343001.out) hb); have n4_ := Aside0.mk (Kd.S_below (by (with_reducible repeat (first | apply Kd.S_alloc | apply Kd.S_drewN | apply Kd.S_drew)); exact HO_381001.out) hb); have n5_ := Aside0.mk (blk_below (g := gb308) (o := .cells #[.int .i64 a0_0, .slice A0_1 l0_1.length c0_1, .slice A0_2 l0_2.length c0_2] 25 (0, 0)) (qK BK308.out) hb); have n6_ := Aside0.mk (blk_below (g := gb325) (o := .cells #[.int .i64 t320, .slice Ao30 t321.length co30] 30 (0, 0)) (qK BK325.out) hb); have n7_ := Aside0.mk (blk_below (g := gb333) (o := .cells #[.int .i64 t326, .slice Ao37 t357.length co37, .slice Ao38 t358.length co38] 35 (0, 0)) (qK BK333.out) hb); have n8_ := Aside0.mk (blk_below (g := gb342) (o := .cells #[.int .i64 t337, .slice Ao48 t363.length co48] 30 (0, 0)) (qK BK342.out) hb); have n9_ := Aside0.mk (blk_below (g := gb380) (o := .cells #[.int .i64 t375, .slice Ao147 t376.length co147] 30 (0, 0)) (qK BK380.out) hb); have n10_ := Aside0.mk (below_step (qB) hb); clear HO_326001; clear HO_334001; clear HO_334002; clear HO_343001; clear HO_381001; clear BK308; clear BK325; clear BK333; clear BK342; clear BK380; clear HB; have HO_326001 := n0_; have HO_334001 := n1_; have HO_334002 := n2_; have HO_343001 := n3_; have HO_381001 := n4_; have BK308 := n5_; have BK325 := n6_; have BK333 := n7_; have BK342 := n8_; have BK380 := n9_; have HB := n10_; clear n0_ n1_ n2_ n3_ n4_ n5_ n6_ n7_ n8_ n9_ n10_; (try clear hb); (try clear hb2); (try clear hk); (try clear hi)))
                  go_ret
                  exact ⟨qE, qB⟩
                 ·rw [if_neg c179] at H
                  exact absurd H (by simp)
            ·rw [if_neg c120] at H
             exact absurd H (by simp)
       ·replace c73 := Bool.eq_false_iff.mpr c73
        subst c73
        have H1 : (some false) = some true := by rw [if_neg (show ¬ (false = true) by decide)] at H; exact H
        exact absurd H1 (by simp)
      ·replace c70 := Bool.eq_false_iff.mpr c70
       subst c70
       have H1 : (some false) = some true := by rw [if_neg (show ¬ (false = true) by decide)] at H; exact H
       exact absurd H1 (by simp)
/-- THE PURE STATEMENT of laws_FnExactCnfFor. -/
def laws_FnExactCnfFor.Pure : Prop := ∀ (a0_0 : Int) (l0_1 : List (S67)) (l0_2 : List Int) (l1 : List Bool), (Lit.int .i64 a0_0).wf = true → ((l0_1).length ≤ maxLen ∧ ∀ y ∈ l0_1, wf67 y) → ((l0_2).length ≤ maxLen ∧ ∀ y ∈ l0_2, (Lit.int .i64 y).wf = true) → ((l1).length ≤ maxLen ∧ ∀ y ∈ l1, True) → ∃ k, laws_FnExactCnfFor.f k a0_0 l0_1 l0_2 l1 = some true
theorem laws_FnExactCnfFor.walk (P : laws_FnExactCnfFor.Pure) (a0_0 : Int) (A0_1 : Option Addr) (c0_1 : Nat) (l0_1 : List (S67)) (A0_2 : Option Addr) (c0_2 : Nat) (l0_2 : List Int) (A1 : Option Addr) (c1 : Nat) (l1 : List Bool) (w : World) (hr0_1 : Kd.C k67 w A0_1 l0_1.length l0_1) (hc0_1 : l0_1.length ≤ c0_1) (hr0_2 : Kd.C (Kd.int .i64) w A0_2 l0_2.length l0_2) (hc0_2 : l0_2.length ≤ c0_2) (hr1 : Kd.C Kd.bool w A1 l1.length l1) (hc1 : l1.length ≤ c1) (w0_0 : (Lit.int .i64 a0_0).wf = true) (w0_1 : ((l0_1).length ≤ maxLen ∧ ∀ y ∈ l0_1, wf67 y)) (w0_2 : ((l0_2).length ≤ maxLen ∧ ∀ y ∈ l0_2, (Lit.int .i64 y).wf = true)) (w1 : ((l1).length ≤ maxLen ∧ ∀ y ∈ l1, True)) :
  Calls Try.prog 3 #[.agg #[.int .i64 a0_0, .slice A0_1 l0_1.length c0_1, .slice A0_2 l0_2.length c0_2], .slice A1 l1.length c1] w fun e w' => e = .returned (.bool true) ∧ Below w.heap.size w w' := by
 obtain ⟨k, h⟩ := P a0_0 l0_1 l0_2 l1 w0_0 w0_1 w0_2 w1
 refine (laws_FnExactCnfFor.calls k a0_0 A0_1 c0_1 l0_1 A0_2 c0_2 l0_2 A1 c1 l1 true w hr0_1 hc0_1 hr0_2 hc0_2 hr1 hc1 h).mono ?_
 rintro e w' ⟨rfl, hd⟩
 exact ⟨rfl, hd⟩

end Go.Proofs.Ytgdmdaalmoioeaa.X
