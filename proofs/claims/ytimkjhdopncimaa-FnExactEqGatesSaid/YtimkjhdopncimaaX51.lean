/- Go functions as Lean functions, each with the proof that its call comes to just its answer. Conditions: the arguments are of their kinds. -/
import Derived.Test.YtimkjhdopncimaaX0
import Derived.Test.YtimkjhdopncimaaX1
import Derived.Test.YtimkjhdopncimaaX5
import Derived.Test.YtimkjhdopncimaaX11
import Derived.Test.YtimkjhdopncimaaX13
import Derived.Test.YtimkjhdopncimaaX25
import Derived.Test.YtimkjhdopncimaaX47
import Derived.Test.YtimkjhdopncimaaXO
namespace Go.Proofs.Ytimkjhdopncimaa.X
open Go.RowKit Go.Proofs.YtimkjhdopncimaaW.PrintWords Go.Proofs.YtimkjhdopncimaaW.PrintLast Go.Proofs.YtimkjhdopncimaaW.PrintMore
attribute [local go_sem] max2_int min2_int max_two min_two max_three min_three max_four min_four   -- for this text's walks alone
set_option linter.unusedVariables false
set_option linter.unusedSimpArgs false

/-! ### laws_FnExactEqGates: function 10 -/
mutual
def laws_FnExactEqGates.j0 : Nat → List Int → List Int → Int → Bool → List Int → List Int → Int → Bool → Bool → Int → List (S82) → List Int → Int → List (S59) → List Int → Int → List (S59) → List Int → Int → List (S59) → List Int → Option (Bool)
 | 0, _, _, _, _, _, _, _, _, _, _, _, _, _, _, _, _, _, _, _, _, _ => none
 | k + 1, x1, x2, x9, x10, x12, x13, x15, x16, x72, x929000, x929001, x929002, x953000, x953001, x953002, x961000, x961001, x961002, x977000, x977001, x977002 => if x72 = true then (some false) else ((laws_toCircuit.f k x929000 x929001 x929002).bind fun bt978 => ((laws_eqCircuit.f k x961000 x961001 x961002 bt978.1 bt978.2.1 bt978.2.2).bind fun t985 => (if t985 = true then ((laws_toIntS.f k x1).bind fun t986 => ((laws_eqIntS.f k x12 t986).bind fun t989 => (if t989 = true then ((laws_toIntS.f k x2).bind fun t990 => ((laws_eqIntS.f k x13 t990).bind fun t993 => (if t993 = true then ((laws_markCircuit.f k x961000 x961001 x961002 1).bind fun bt994 => ((laws_markIntS.f k x12 bt994.1).bind fun bt997 => ((laws_markIntS.f k x13 bt997.1).bind fun bt999 => (if bt999.1 < 0 then (laws_FnExactEqGates.j1 k x1 x2 x9 x10 true x929000 x929001 x929002 x953000 x953001 x953002 x977000 x977001 x977002) else ((laws_eqCircuit.f k x977000 x977001 x977002 x953000 x953001 x953002).bind fun t1001 => (if t1001 = true then (if x15 = x9 then (laws_FnExactEqGates.j1 k x1 x2 x9 x10 (x16 != x10) x929000 x929001 x929002 x953000 x953001 x953002 x977000 x977001 x977002) else (laws_FnExactEqGates.j1 k x1 x2 x9 x10 true x929000 x929001 x929002 x953000 x953001 x953002 x977000 x977001 x977002)) else (laws_FnExactEqGates.j1 k x1 x2 x9 x10 true x929000 x929001 x929002 x953000 x953001 x953002 x977000 x977001 x977002))))))) else (some false)))) else (some false)))) else (some false))))
def laws_FnExactEqGates.j1 : Nat → List Int → List Int → Int → Bool → Bool → Int → List (S82) → List Int → Int → List (S59) → List Int → Int → List (S59) → List Int → Option (Bool)
 | 0, _, _, _, _, _, _, _, _, _, _, _, _, _, _ => none
 | k + 1, x1, x2, x9, x10, x114, x929000, x929001, x929002, x953000, x953001, x953002, x977000, x977001, x977002 => if x114 = true then (some false) else ((laws_markCircuit.f k x977000 x977001 x977002 1).bind fun bt1002 => ((laws_heldCircuit.f k x977000 bt1002.2.1 bt1002.2.2 1).bind fun t1005 => (if t1005 < 0 then (some false) else (if t1005 = bt1002.1 then ((laws_toCircuit.f k x929000 x929001 x929002).bind fun bt1006 => ((laws_toIntS.f k x1).bind fun t1013 => ((laws_toIntS.f k x2).bind fun t1016 => ((impl_EqGates.f k bt1006.1 bt1006.2.1 bt1006.2.2 t1013 t1016).bind fun bt1019 => ((laws_eqCircuit.f k bt1019.1 bt1019.2.1 bt1019.2.2.1 x953000 x953001 x953002).bind fun t1029 => (if t1029 = true then (if bt1019.2.2.2.1 = x9 then (laws_FnExactEqGates.j2 k bt1002.1 (bt1019.2.2.2.2 != x10) x977000 bt1002.2.1 bt1002.2.2) else (laws_FnExactEqGates.j2 k bt1002.1 true x977000 bt1002.2.1 bt1002.2.2)) else (laws_FnExactEqGates.j2 k bt1002.1 true x977000 bt1002.2.1 bt1002.2.2))))))) else (some false)))))
def laws_FnExactEqGates.j2 : Nat → Int → Bool → Int → List (S59) → List Int → Option (Bool)
 | 0, _, _, _, _, _ => none
 | k + 1, x18, x150, x977000, x977001, x977002 => if x150 = true then (some false) else ((laws_heldCircuit.f k x977000 x977001 x977002 1).bind fun t1030 => (if t1030 < 0 then (some false) else (if t1030 = x18 then (some true) else (some false))))
end
def laws_FnExactEqGates.f (k : Nat) (a0_0 : Int) (l0_1 : List (S82)) (l0_2 : List Int) (l1 : List Int) (l2 : List Int) : Option (Bool) := if (l1.length : Int) > 1048576 then (some true) else (if (l2.length : Int) > 1048576 then (some true) else ((laws_szCircuit.f a0_0 l0_1 l0_2 1048576).bind fun t929 => (if t929 < 0 then (some true) else ((laws_toCircuit.f k a0_0 l0_1 l0_2).bind fun bt930 => ((laws_toIntS.f k l1).bind fun t937 => ((laws_toIntS.f k l2).bind fun t940 => ((spec_EqGates.f k bt930.1 bt930.2.1 bt930.2.2 t937 t940).bind fun bt943 => ((laws_toCircuit.f k a0_0 l0_1 l0_2).bind fun bt953 => ((laws_toIntS.f k l1).bind fun t961 => ((laws_toIntS.f k l2).bind fun t964 => ((impl_EqGates.f k bt953.1 bt953.2.1 bt953.2.2 t961 t964).bind fun bt967 => ((laws_eqCircuit.f k bt967.1 bt967.2.1 bt967.2.2.1 bt943.1 bt943.2.1 bt943.2.2.1).bind fun t977 => (if t977 = true then (if bt967.2.2.2.1 = bt943.2.2.2.1 then (laws_FnExactEqGates.j0 k l1 l2 bt943.2.2.2.1 bt943.2.2.2.2 t961 t964 bt967.2.2.2.1 bt967.2.2.2.2 (bt967.2.2.2.2 != bt943.2.2.2.2) a0_0 l0_1 l0_2 bt943.1 bt943.2.1 bt943.2.2.1 bt953.1 bt953.2.1 bt953.2.2 bt967.1 bt967.2.1 bt967.2.2.1) else (laws_FnExactEqGates.j0 k l1 l2 bt943.2.2.2.1 bt943.2.2.2.2 t961 t964 bt967.2.2.2.1 bt967.2.2.2.2 true a0_0 l0_1 l0_2 bt943.1 bt943.2.1 bt943.2.2.1 bt953.1 bt953.2.1 bt953.2.2 bt967.1 bt967.2.1 bt967.2.2.1)) else (laws_FnExactEqGates.j0 k l1 l2 bt943.2.2.2.1 bt943.2.2.2.2 t961 t964 bt967.2.2.2.1 bt967.2.2.2.2 true a0_0 l0_1 l0_2 bt943.1 bt943.2.1 bt943.2.2.1 bt953.1 bt953.2.1 bt953.2.2 bt967.1 bt967.2.1 bt967.2.2.1))))))))))))))
theorem laws_FnExactEqGates.mono_l : ∀ k, (∀ y0 y1 y2 y3 y4 y5 y6 y7 y8 y9 y10 y11 y12 y13 y14 y15 y16 y17 y18 y19 y20, LeO (laws_FnExactEqGates.j0 k y0 y1 y2 y3 y4 y5 y6 y7 y8 y9 y10 y11 y12 y13 y14 y15 y16 y17 y18 y19 y20) (laws_FnExactEqGates.j0 (k + 1) y0 y1 y2 y3 y4 y5 y6 y7 y8 y9 y10 y11 y12 y13 y14 y15 y16 y17 y18 y19 y20)) ∧ (∀ y0 y1 y2 y3 y4 y5 y6 y7 y8 y9 y10 y11 y12 y13, LeO (laws_FnExactEqGates.j1 k y0 y1 y2 y3 y4 y5 y6 y7 y8 y9 y10 y11 y12 y13) (laws_FnExactEqGates.j1 (k + 1) y0 y1 y2 y3 y4 y5 y6 y7 y8 y9 y10 y11 y12 y13)) ∧ (∀ y0 y1 y2 y3 y4, LeO (laws_FnExactEqGates.j2 k y0 y1 y2 y3 y4) (laws_FnExactEqGates.j2 (k + 1) y0 y1 y2 y3 y4))
 | 0 => ⟨fun _ _ _ _ _ _ _ _ _ _ _ _ _ _ _ _ _ _ _ _ _ r h => by simp [laws_FnExactEqGates.j0] at h, fun _ _ _ _ _ _ _ _ _ _ _ _ _ _ r h => by simp [laws_FnExactEqGates.j1] at h, fun _ _ _ _ _ r h => by simp [laws_FnExactEqGates.j2] at h⟩
 | k + 1 => by
  obtain ⟨ih0, ih1, ih2⟩ := laws_FnExactEqGates.mono_l k
  refine ⟨?_, ?_, ?_⟩
  ·intro y0 y1 y2 y3 y4 y5 y6 y7 y8 y9 y10 y11 y12 y13 y14 y15 y16 y17 y18 y19 y20
   unfold laws_FnExactEqGates.j0
   repeat' first
   | (with_reducible exact ih0 _ _ _ _ _ _ _ _ _ _ _ _ _ _ _ _ _ _ _ _ _)
   | (with_reducible exact ih1 _ _ _ _ _ _ _ _ _ _ _ _ _ _)
   | (with_reducible exact ih2 _ _ _ _ _)
   | (with_reducible exact impl_EqGates.mono _ _ _ _ _ _)
   | (with_reducible exact laws_eqCircuit.mono _ _ _ _ _ _ _)
   | (with_reducible exact laws_eqIntS.mono _ _ _)
   | (with_reducible exact laws_heldCircuit.mono _ _ _ _ _)
   | (with_reducible exact laws_markCircuit.mono _ _ _ _ _)
   | (with_reducible exact laws_markIntS.mono _ _ _)
   | (with_reducible exact laws_toCircuit.mono _ _ _ _)
   | (with_reducible exact laws_toIntS.mono _ _)
   | (with_reducible exact spec_EqGates.mono _ _ _ _ _ _)
   | (with_reducible first | exact LeO.refl _ | exact LeO.none _ | refine LeO.ite ?_ ?_ | refine LeO.bind ?_ (fun _ => ?_))
   | exact ih0 _ _ _ _ _ _ _ _ _ _ _ _ _ _ _ _ _ _ _ _ _
   | exact ih1 _ _ _ _ _ _ _ _ _ _ _ _ _ _
   | exact ih2 _ _ _ _ _
   | exact impl_EqGates.mono _ _ _ _ _ _
   | exact laws_eqCircuit.mono _ _ _ _ _ _ _
   | exact laws_eqIntS.mono _ _ _
   | exact laws_heldCircuit.mono _ _ _ _ _
   | exact laws_markCircuit.mono _ _ _ _ _
   | exact laws_markIntS.mono _ _ _
   | exact laws_toCircuit.mono _ _ _ _
   | exact laws_toIntS.mono _ _
   | exact spec_EqGates.mono _ _ _ _ _ _
   | exact LeO.none _ | refine LeO.ite ?_ ?_ | refine LeO.bind ?_ (fun _ => ?_)
  ·intro y0 y1 y2 y3 y4 y5 y6 y7 y8 y9 y10 y11 y12 y13
   unfold laws_FnExactEqGates.j1
   repeat' first
   | (with_reducible exact ih0 _ _ _ _ _ _ _ _ _ _ _ _ _ _ _ _ _ _ _ _ _)
   | (with_reducible exact ih1 _ _ _ _ _ _ _ _ _ _ _ _ _ _)
   | (with_reducible exact ih2 _ _ _ _ _)
   | (with_reducible exact impl_EqGates.mono _ _ _ _ _ _)
   | (with_reducible exact laws_eqCircuit.mono _ _ _ _ _ _ _)
   | (with_reducible exact laws_eqIntS.mono _ _ _)
   | (with_reducible exact laws_heldCircuit.mono _ _ _ _ _)
   | (with_reducible exact laws_markCircuit.mono _ _ _ _ _)
   | (with_reducible exact laws_markIntS.mono _ _ _)
   | (with_reducible exact laws_toCircuit.mono _ _ _ _)
   | (with_reducible exact laws_toIntS.mono _ _)
   | (with_reducible exact spec_EqGates.mono _ _ _ _ _ _)
   | (with_reducible first | exact LeO.refl _ | exact LeO.none _ | refine LeO.ite ?_ ?_ | refine LeO.bind ?_ (fun _ => ?_))
   | exact ih0 _ _ _ _ _ _ _ _ _ _ _ _ _ _ _ _ _ _ _ _ _
   | exact ih1 _ _ _ _ _ _ _ _ _ _ _ _ _ _
   | exact ih2 _ _ _ _ _
   | exact impl_EqGates.mono _ _ _ _ _ _
   | exact laws_eqCircuit.mono _ _ _ _ _ _ _
   | exact laws_eqIntS.mono _ _ _
   | exact laws_heldCircuit.mono _ _ _ _ _
   | exact laws_markCircuit.mono _ _ _ _ _
   | exact laws_markIntS.mono _ _ _
   | exact laws_toCircuit.mono _ _ _ _
   | exact laws_toIntS.mono _ _
   | exact spec_EqGates.mono _ _ _ _ _ _
   | exact LeO.none _ | refine LeO.ite ?_ ?_ | refine LeO.bind ?_ (fun _ => ?_)
  ·intro y0 y1 y2 y3 y4
   unfold laws_FnExactEqGates.j2
   repeat' first
   | (with_reducible exact ih0 _ _ _ _ _ _ _ _ _ _ _ _ _ _ _ _ _ _ _ _ _)
   | (with_reducible exact ih1 _ _ _ _ _ _ _ _ _ _ _ _ _ _)
   | (with_reducible exact ih2 _ _ _ _ _)
   | (with_reducible exact impl_EqGates.mono _ _ _ _ _ _)
   | (with_reducible exact laws_eqCircuit.mono _ _ _ _ _ _ _)
   | (with_reducible exact laws_eqIntS.mono _ _ _)
   | (with_reducible exact laws_heldCircuit.mono _ _ _ _ _)
   | (with_reducible exact laws_markCircuit.mono _ _ _ _ _)
   | (with_reducible exact laws_markIntS.mono _ _ _)
   | (with_reducible exact laws_toCircuit.mono _ _ _ _)
   | (with_reducible exact laws_toIntS.mono _ _)
   | (with_reducible exact spec_EqGates.mono _ _ _ _ _ _)
   | (with_reducible first | exact LeO.refl _ | exact LeO.none _ | refine LeO.ite ?_ ?_ | refine LeO.bind ?_ (fun _ => ?_))
   | exact ih0 _ _ _ _ _ _ _ _ _ _ _ _ _ _ _ _ _ _ _ _ _
   | exact ih1 _ _ _ _ _ _ _ _ _ _ _ _ _ _
   | exact ih2 _ _ _ _ _
   | exact impl_EqGates.mono _ _ _ _ _ _
   | exact laws_eqCircuit.mono _ _ _ _ _ _ _
   | exact laws_eqIntS.mono _ _ _
   | exact laws_heldCircuit.mono _ _ _ _ _
   | exact laws_markCircuit.mono _ _ _ _ _
   | exact laws_markIntS.mono _ _ _
   | exact laws_toCircuit.mono _ _ _ _
   | exact laws_toIntS.mono _ _
   | exact spec_EqGates.mono _ _ _ _ _ _
   | exact LeO.none _ | refine LeO.ite ?_ ?_ | refine LeO.bind ?_ (fun _ => ?_)
theorem laws_FnExactEqGates.mono : ∀ a0 a1 a2 a3 a4 k, LeO (laws_FnExactEqGates.f k a0 a1 a2 a3 a4) (laws_FnExactEqGates.f (k + 1) a0 a1 a2 a3 a4) := by
 intro a0 a1 a2 a3 a4 k
 obtain ⟨ih0, ih1, ih2⟩ := laws_FnExactEqGates.mono_l k
 unfold laws_FnExactEqGates.f
 repeat' first
   | (with_reducible exact ih0 _ _ _ _ _ _ _ _ _ _ _ _ _ _ _ _ _ _ _ _ _)
   | (with_reducible exact ih1 _ _ _ _ _ _ _ _ _ _ _ _ _ _)
   | (with_reducible exact ih2 _ _ _ _ _)
   | (with_reducible exact impl_EqGates.mono _ _ _ _ _ _)
   | (with_reducible exact laws_eqCircuit.mono _ _ _ _ _ _ _)
   | (with_reducible exact laws_eqIntS.mono _ _ _)
   | (with_reducible exact laws_heldCircuit.mono _ _ _ _ _)
   | (with_reducible exact laws_markCircuit.mono _ _ _ _ _)
   | (with_reducible exact laws_markIntS.mono _ _ _)
   | (with_reducible exact laws_toCircuit.mono _ _ _ _)
   | (with_reducible exact laws_toIntS.mono _ _)
   | (with_reducible exact spec_EqGates.mono _ _ _ _ _ _)
   | (with_reducible first | exact LeO.refl _ | exact LeO.none _ | refine LeO.ite ?_ ?_ | refine LeO.bind ?_ (fun _ => ?_))
   | exact ih0 _ _ _ _ _ _ _ _ _ _ _ _ _ _ _ _ _ _ _ _ _
   | exact ih1 _ _ _ _ _ _ _ _ _ _ _ _ _ _
   | exact ih2 _ _ _ _ _
   | exact impl_EqGates.mono _ _ _ _ _ _
   | exact laws_eqCircuit.mono _ _ _ _ _ _ _
   | exact laws_eqIntS.mono _ _ _
   | exact laws_heldCircuit.mono _ _ _ _ _
   | exact laws_markCircuit.mono _ _ _ _ _
   | exact laws_markIntS.mono _ _ _
   | exact laws_toCircuit.mono _ _ _ _
   | exact laws_toIntS.mono _ _
   | exact spec_EqGates.mono _ _ _ _ _ _
   | exact LeO.none _ | refine LeO.ite ?_ ?_ | refine LeO.bind ?_ (fun _ => ?_)
set_option maxHeartbeats 8000000 in
set_option maxRecDepth 100000 in
theorem laws_FnExactEqGates.calls (k : Nat) (a0_0 : Int) (A0_1 : Option Addr) (c0_1 : Nat) (l0_1 : List (S82)) (A0_2 : Option Addr) (c0_2 : Nat) (l0_2 : List Int) (A1 : Option Addr) (c1 : Nat) (l1 : List Int) (A2 : Option Addr) (c2 : Nat) (l2 : List Int) (r : Bool) (w : World) (hr0_1 : Kd.C k82 w A0_1 l0_1.length l0_1) (hc0_1 : l0_1.length ≤ c0_1) (hr0_2 : Kd.C (Kd.int .i64) w A0_2 l0_2.length l0_2) (hc0_2 : l0_2.length ≤ c0_2) (hr1 : Kd.C (Kd.int .i64) w A1 l1.length l1) (hc1 : l1.length ≤ c1) (hr2 : Kd.C (Kd.int .i64) w A2 l2.length l2) (hc2 : l2.length ≤ c2) (h : laws_FnExactEqGates.f k a0_0 l0_1 l0_2 l1 l2 = some true) :
  Calls Try.prog 10 #[.agg #[.int .i64 a0_0, .slice A0_1 l0_1.length c0_1, .slice A0_2 l0_2.length c0_2], .slice A1 l1.length c1, .slice A2 l2.length c2] w fun e w' => e = .returned (.bool true) ∧ Below w.heap.size w w' := by
 have hu25 := Try.underlying25
 have hu30 := Try.underlying30
 have HR0_1 := Aside0.mk hr0_1
 have HC0_1 := Aside0.mk hc0_1
 clear hr0_1 hc0_1
 have HR0_2 := Aside0.mk hr0_2
 have HC0_2 := Aside0.mk hc0_2
 clear hr0_2 hc0_2
 have HR1 := Aside0.mk hr1
 have HC1 := Aside0.mk hc1
 clear hr1 hc1
 have HR2 := Aside0.mk hr2
 have HC2 := Aside0.mk hc2
 clear hr2 hc2
 have HB := Aside0.mk (Below.refl w.heap.size w)
 have H : (if (l1.length : Int) > 1048576 then (some true) else (if (l2.length : Int) > 1048576 then (some true) else ((laws_szCircuit.f a0_0 l0_1 l0_2 1048576).bind fun t929 => (if t929 < 0 then (some true) else ((laws_toCircuit.f k a0_0 l0_1 l0_2).bind fun bt930 => ((laws_toIntS.f k l1).bind fun t937 => ((laws_toIntS.f k l2).bind fun t940 => ((spec_EqGates.f k bt930.1 bt930.2.1 bt930.2.2 t937 t940).bind fun bt943 => ((laws_toCircuit.f k a0_0 l0_1 l0_2).bind fun bt953 => ((laws_toIntS.f k l1).bind fun t961 => ((laws_toIntS.f k l2).bind fun t964 => ((impl_EqGates.f k bt953.1 bt953.2.1 bt953.2.2 t961 t964).bind fun bt967 => ((laws_eqCircuit.f k bt967.1 bt967.2.1 bt967.2.2.1 bt943.1 bt943.2.1 bt943.2.2.1).bind fun t977 => (if t977 = true then (if bt967.2.2.2.1 = bt943.2.2.2.1 then (laws_FnExactEqGates.j0 k l1 l2 bt943.2.2.2.1 bt943.2.2.2.2 t961 t964 bt967.2.2.2.1 bt967.2.2.2.2 (bt967.2.2.2.2 != bt943.2.2.2.2) a0_0 l0_1 l0_2 bt943.1 bt943.2.1 bt943.2.2.1 bt953.1 bt953.2.1 bt953.2.2 bt967.1 bt967.2.1 bt967.2.2.1) else (laws_FnExactEqGates.j0 k l1 l2 bt943.2.2.2.1 bt943.2.2.2.2 t961 t964 bt967.2.2.2.1 bt967.2.2.2.2 true a0_0 l0_1 l0_2 bt943.1 bt943.2.1 bt943.2.2.1 bt953.1 bt953.2.1 bt953.2.2 bt967.1 bt967.2.1 bt967.2.2.1)) else (laws_FnExactEqGates.j0 k l1 l2 bt943.2.2.2.1 bt943.2.2.2.2 t961 t964 bt967.2.2.2.1 bt967.2.2.2.2 true a0_0 l0_1 l0_2 bt943.1 bt943.2.1 bt943.2.2.1 bt953.1 bt953.2.1 bt953.2.2 bt967.1 bt967.2.1 bt967.2.2.1))))))))))))))) = some true := h
 clear h
 by_cases c4 : (l1.length : Int) > 1048576
 ·rw [if_pos c4] at H
  have c4b0 : decide (1048576 < (l1.length : Int)) = true := decide_eq_true c4
  have c4b1 : decide (1048576 < l1.length) = true := decide_eq_true (by omega)
  clear c4
  go_enter Try.func10, Try.ntmps10
  go_wp2_with (first | ((with_reducible refine gate_dst (N := 3) rfl ?_); refine box_event ?hg (N := 3) ?hd (cs := #[.int .i64 a0_0, .slice A0_1 l0_1.length c0_1, .slice A0_2 l0_2.length c0_2]) (t := 25) ?hr ?_; (case hd => rfl); (case hg => rfl); (case hr => first | (go_simp; done) | (go_simp; rfl)); intro gb928 hg w5 hbox hb; have n0_ := Aside0.mk (below_step (qB) hb); have n1_ := Aside0.mk (hbox); have n2_ := Aside0.mk ((by rw [hg]; exact (below_size (qB)) : w.heap.size ≤ gb928)); have n3_ := Aside0.mk ((by rw [hg]; exact (below_size (qB)) : w.heap.size ≤ gb928)); clear HB; have HB := n0_; have BK928 := n1_; have GW928 := n2_; have GE928 := n3_; clear n0_ n1_ n2_ n3_; clear hb hbox hg))
  go_ret
  exact ⟨qE, qB⟩
 ·rw [if_neg c4] at H
  have c4b0 : decide (1048576 < (l1.length : Int)) = false := decide_eq_false c4
  have c4b1 : decide (1048576 < l1.length) = false := decide_eq_false (by omega)
  clear c4
  by_cases c6 : (l2.length : Int) > 1048576
  ·rw [if_pos c6] at H
   have c6b0 : decide (1048576 < (l2.length : Int)) = true := decide_eq_true c6
   have c6b1 : decide (1048576 < l2.length) = true := decide_eq_true (by omega)
   clear c6
   go_enter Try.func10, Try.ntmps10
   go_wp2_with (first | ((with_reducible refine gate_dst (N := 3) rfl ?_); refine box_event ?hg (N := 3) ?hd (cs := #[.int .i64 a0_0, .slice A0_1 l0_1.length c0_1, .slice A0_2 l0_2.length c0_2]) (t := 25) ?hr ?_; (case hd => rfl); (case hg => rfl); (case hr => first | (go_simp; done) | (go_simp; rfl)); intro gb928 hg w7 hbox hb; have n0_ := Aside0.mk (below_step (qB) hb); have n1_ := Aside0.mk (hbox); have n2_ := Aside0.mk ((by rw [hg]; exact (below_size (qB)) : w.heap.size ≤ gb928)); have n3_ := Aside0.mk ((by rw [hg]; exact (below_size (qB)) : w.heap.size ≤ gb928)); clear HB; have HB := n0_; have BK928 := n1_; have GW928 := n2_; have GE928 := n3_; clear n0_ n1_ n2_ n3_; clear hb hbox hg))
   go_ret
   exact ⟨qE, qB⟩
  ·rw [if_neg c6] at H
   have c6b0 : decide (1048576 < (l2.length : Int)) = false := decide_eq_false c6
   have c6b1 : decide (1048576 < l2.length) = false := decide_eq_false (by omega)
   clear c6
   replace H := Option.bind_eq_some_iff.mp H
   obtain ⟨t929, A80, H⟩ := H
   replace H : (if t929 < 0 then (some true) else ((laws_toCircuit.f k a0_0 l0_1 l0_2).bind fun bt930 => ((laws_toIntS.f k l1).bind fun t937 => ((laws_toIntS.f k l2).bind fun t940 => ((spec_EqGates.f k bt930.1 bt930.2.1 bt930.2.2 t937 t940).bind fun bt943 => ((laws_toCircuit.f k a0_0 l0_1 l0_2).bind fun bt953 => ((laws_toIntS.f k l1).bind fun t961 => ((laws_toIntS.f k l2).bind fun t964 => ((impl_EqGates.f k bt953.1 bt953.2.1 bt953.2.2 t961 t964).bind fun bt967 => ((laws_eqCircuit.f k bt967.1 bt967.2.1 bt967.2.2.1 bt943.1 bt943.2.1 bt943.2.2.1).bind fun t977 => (if t977 = true then (if bt967.2.2.2.1 = bt943.2.2.2.1 then (laws_FnExactEqGates.j0 k l1 l2 bt943.2.2.2.1 bt943.2.2.2.2 t961 t964 bt967.2.2.2.1 bt967.2.2.2.2 (bt967.2.2.2.2 != bt943.2.2.2.2) a0_0 l0_1 l0_2 bt943.1 bt943.2.1 bt943.2.2.1 bt953.1 bt953.2.1 bt953.2.2 bt967.1 bt967.2.1 bt967.2.2.1) else (laws_FnExactEqGates.j0 k l1 l2 bt943.2.2.2.1 bt943.2.2.2.2 t961 t964 bt967.2.2.2.1 bt967.2.2.2.2 true a0_0 l0_1 l0_2 bt943.1 bt943.2.1 bt943.2.2.1 bt953.1 bt953.2.1 bt953.2.2 bt967.1 bt967.2.1 bt967.2.2.1)) else (laws_FnExactEqGates.j0 k l1 l2 bt943.2.2.2.1 bt943.2.2.2.2 t961 t964 bt967.2.2.2.1 bt967.2.2.2.2 true a0_0 l0_1 l0_2 bt943.1 bt943.2.1 bt943.2.2.1 bt953.1 bt953.2.1 bt953.2.2 bt967.1 bt967.2.1 bt967.2.2.1)))))))))))) = some true := H
   have A8 := Aside0.mk A80
   clear A80
   by_cases c9 : t929 < 0
   ·rw [if_pos c9] at H
    have c9b0 : decide (t929 < 0) = true := decide_eq_true c9
    clear c9
    go_enter Try.func10, Try.ntmps10
    go_wp2_with (first | ((with_reducible refine gate_dst (N := 3) rfl ?_); refine box_event ?hg (N := 3) ?hd (cs := #[.int .i64 a0_0, .slice A0_1 l0_1.length c0_1, .slice A0_2 l0_2.length c0_2]) (t := 25) ?hr ?_; (case hd => rfl); (case hg => rfl); (case hr => first | (go_simp; done) | (go_simp; rfl)); intro gb928 hg w10 hbox hb; have n0_ := Aside0.mk (below_step (qB) hb); have n1_ := Aside0.mk (hbox); have n2_ := Aside0.mk ((by rw [hg]; exact (below_size (qB)) : w.heap.size ≤ gb928)); have n3_ := Aside0.mk ((by rw [hg]; exact (below_size (qB)) : w.heap.size ≤ gb928)); clear HB; have HB := n0_; have BK928 := n1_; have GW928 := n2_; have GE928 := n3_; clear n0_ n1_ n2_ n3_; clear hb hbox hg; have hcz11_0 : w10.cell? ⟨gb928, 0, none⟩ = some (.int .i64 a0_0) := (blk_cell BK928.out 0).trans rfl; have hcz11_1 : w10.cell? ⟨gb928, 1, none⟩ = some (.slice A0_1 l0_1.length c0_1) := (blk_cell BK928.out 1).trans rfl; have hcz11_2 : w10.cell? ⟨gb928, 2, none⟩ = some (.slice A0_2 l0_2.length c0_2) := (blk_cell BK928.out 2).trans rfl; have hfz11_0 := blk_frozen BK928.out 0; have hfz11_1 := blk_frozen BK928.out 1; have hfz11_2 := blk_frozen BK928.out 2) | ((with_reducible refine gate_callee (f := 11) rfl ?_); refine goesL_ (some 31) rfl rfl Try.func11 (by kernel_rfl) rfl #[.agg #[.int .i64 a0_0, .slice A0_1 l0_1.length c0_1, .slice A0_2 l0_2.length c0_2], .int .i64 1048576] rfl qG ?_; (with_reducible refine (laws_szCircuit.calls a0_0 _ _ l0_1 _ _ l0_2 1048576 t929 _ ?side1 ?side2 ?side3 ?side4 A8.out).mono ?_); (case side1 => exact qC (Kd.C_below HR0_1.out HB.out)); (case side2 => exact HC0_1.out); (case side3 => exact qC (Kd.C_below HR0_2.out HB.out)); (case side4 => exact HC0_2.out); rintro e w12 ⟨rfl, hb⟩; refine ⟨_, rfl, ?_⟩; have n0_ := Aside0.mk (blk_below (g := gb928) (o := .cells #[.int .i64 a0_0, .slice A0_1 l0_1.length c0_1, .slice A0_2 l0_2.length c0_2] 25 (0, 0)) (qK BK928.out) hb); have n1_ := Aside0.mk (below_step (qB) hb); clear BK928; clear HB; have BK928 := n0_; have HB := n1_; clear n0_ n1_; (try clear hb); (try clear hb2); (try clear hk); (try clear hi)))
    go_ret
    exact ⟨qE, qB⟩
   ·rw [if_neg c9] at H
    have c9b0 : decide (t929 < 0) = false := decide_eq_false c9
    clear c9
    replace H := Option.bind_eq_some_iff.mp H
    obtain ⟨⟨t930, t931, t934⟩, A130, H⟩ := H
    replace H : ((laws_toIntS.f k l1).bind fun t937 => ((laws_toIntS.f k l2).bind fun t940 => ((spec_EqGates.f k t930 t931 t934 t937 t940).bind fun bt943 => ((laws_toCircuit.f k a0_0 l0_1 l0_2).bind fun bt953 => ((laws_toIntS.f k l1).bind fun t961 => ((laws_toIntS.f k l2).bind fun t964 => ((impl_EqGates.f k bt953.1 bt953.2.1 bt953.2.2 t961 t964).bind fun bt967 => ((laws_eqCircuit.f k bt967.1 bt967.2.1 bt967.2.2.1 bt943.1 bt943.2.1 bt943.2.2.1).bind fun t977 => (if t977 = true then (if bt967.2.2.2.1 = bt943.2.2.2.1 then (laws_FnExactEqGates.j0 k l1 l2 bt943.2.2.2.1 bt943.2.2.2.2 t961 t964 bt967.2.2.2.1 bt967.2.2.2.2 (bt967.2.2.2.2 != bt943.2.2.2.2) a0_0 l0_1 l0_2 bt943.1 bt943.2.1 bt943.2.2.1 bt953.1 bt953.2.1 bt953.2.2 bt967.1 bt967.2.1 bt967.2.2.1) else (laws_FnExactEqGates.j0 k l1 l2 bt943.2.2.2.1 bt943.2.2.2.2 t961 t964 bt967.2.2.2.1 bt967.2.2.2.2 true a0_0 l0_1 l0_2 bt943.1 bt943.2.1 bt943.2.2.1 bt953.1 bt953.2.1 bt953.2.2 bt967.1 bt967.2.1 bt967.2.2.1)) else (laws_FnExactEqGates.j0 k l1 l2 bt943.2.2.2.1 bt943.2.2.2.2 t961 t964 bt967.2.2.2.1 bt967.2.2.2.2 true a0_0 l0_1 l0_2 bt943.1 bt943.2.1 bt943.2.2.1 bt953.1 bt953.2.1 bt953.2.2 bt967.1 bt967.2.1 bt967.2.2.1)))))))))) = some true := H
    have A13 := Aside0.mk A130
    clear A130
    replace H := Option.bind_eq_some_iff.mp H
    obtain ⟨t937, A140, H⟩ := H
    replace H : ((laws_toIntS.f k l2).bind fun t940 => ((spec_EqGates.f k t930 t931 t934 t937 t940).bind fun bt943 => ((laws_toCircuit.f k a0_0 l0_1 l0_2).bind fun bt953 => ((laws_toIntS.f k l1).bind fun t961 => ((laws_toIntS.f k l2).bind fun t964 => ((impl_EqGates.f k bt953.1 bt953.2.1 bt953.2.2 t961 t964).bind fun bt967 => ((laws_eqCircuit.f k bt967.1 bt967.2.1 bt967.2.2.1 bt943.1 bt943.2.1 bt943.2.2.1).bind fun t977 => (if t977 = true then (if bt967.2.2.2.1 = bt943.2.2.2.1 then (laws_FnExactEqGates.j0 k l1 l2 bt943.2.2.2.1 bt943.2.2.2.2 t961 t964 bt967.2.2.2.1 bt967.2.2.2.2 (bt967.2.2.2.2 != bt943.2.2.2.2) a0_0 l0_1 l0_2 bt943.1 bt943.2.1 bt943.2.2.1 bt953.1 bt953.2.1 bt953.2.2 bt967.1 bt967.2.1 bt967.2.2.1) else (laws_FnExactEqGates.j0 k l1 l2 bt943.2.2.2.1 bt943.2.2.2.2 t961 t964 bt967.2.2.2.1 bt967.2.2.2.2 true a0_0 l0_1 l0_2 bt943.1 bt943.2.1 bt943.2.2.1 bt953.1 bt953.2.1 bt953.2.2 bt967.1 bt967.2.1 bt967.2.2.1)) else (laws_FnExactEqGates.j0 k l1 l2 bt943.2.2.2.1 bt943.2.2.2.2 t961 t964 bt967.2.2.2.1 bt967.2.2.2.2 true a0_0 l0_1 l0_2 bt943.1 bt943.2.1 bt943.2.2.1 bt953.1 bt953.2.1 bt953.2.2 bt967.1 bt967.2.1 bt967.2.2.1))))))))) = some true := H
    have A14 := Aside0.mk A140
    clear A140
    replace H := Option.bind_eq_some_iff.mp H
    obtain ⟨t940, A150, H⟩ := H
    replace H : ((spec_EqGates.f k t930 t931 t934 t937 t940).bind fun bt943 => ((laws_toCircuit.f k a0_0 l0_1 l0_2).bind fun bt953 => ((laws_toIntS.f k l1).bind fun t961 => ((laws_toIntS.f k l2).bind fun t964 => ((impl_EqGates.f k bt953.1 bt953.2.1 bt953.2.2 t961 t964).bind fun bt967 => ((laws_eqCircuit.f k bt967.1 bt967.2.1 bt967.2.2.1 bt943.1 bt943.2.1 bt943.2.2.1).bind fun t977 => (if t977 = true then (if bt967.2.2.2.1 = bt943.2.2.2.1 then (laws_FnExactEqGates.j0 k l1 l2 bt943.2.2.2.1 bt943.2.2.2.2 t961 t964 bt967.2.2.2.1 bt967.2.2.2.2 (bt967.2.2.2.2 != bt943.2.2.2.2) a0_0 l0_1 l0_2 bt943.1 bt943.2.1 bt943.2.2.1 bt953.1 bt953.2.1 bt953.2.2 bt967.1 bt967.2.1 bt967.2.2.1) else (laws_FnExactEqGates.j0 k l1 l2 bt943.2.2.2.1 bt943.2.2.2.2 t961 t964 bt967.2.2.2.1 bt967.2.2.2.2 true a0_0 l0_1 l0_2 bt943.1 bt943.2.1 bt943.2.2.1 bt953.1 bt953.2.1 bt953.2.2 bt967.1 bt967.2.1 bt967.2.2.1)) else (laws_FnExactEqGates.j0 k l1 l2 bt943.2.2.2.1 bt943.2.2.2.2 t961 t964 bt967.2.2.2.1 bt967.2.2.2.2 true a0_0 l0_1 l0_2 bt943.1 bt943.2.1 bt943.2.2.1 bt953.1 bt953.2.1 bt953.2.2 bt967.1 bt967.2.1 bt967.2.2.1)))))))) = some true := H
    have A15 := Aside0.mk A150
    clear A150
    replace H := Option.bind_eq_some_iff.mp H
    obtain ⟨⟨t943, t944, t947, t950, t951⟩, A160, H⟩ := H
    replace H : ((laws_toCircuit.f k a0_0 l0_1 l0_2).bind fun bt953 => ((laws_toIntS.f k l1).bind fun t961 => ((laws_toIntS.f k l2).bind fun t964 => ((impl_EqGates.f k bt953.1 bt953.2.1 bt953.2.2 t961 t964).bind fun bt967 => ((laws_eqCircuit.f k bt967.1 bt967.2.1 bt967.2.2.1 t943 t944 t947).bind fun t977 => (if t977 = true then (if bt967.2.2.2.1 = t950 then (laws_FnExactEqGates.j0 k l1 l2 t950 t951 t961 t964 bt967.2.2.2.1 bt967.2.2.2.2 (bt967.2.2.2.2 != t951) a0_0 l0_1 l0_2 t943 t944 t947 bt953.1 bt953.2.1 bt953.2.2 bt967.1 bt967.2.1 bt967.2.2.1) else (laws_FnExactEqGates.j0 k l1 l2 t950 t951 t961 t964 bt967.2.2.2.1 bt967.2.2.2.2 true a0_0 l0_1 l0_2 t943 t944 t947 bt953.1 bt953.2.1 bt953.2.2 bt967.1 bt967.2.1 bt967.2.2.1)) else (laws_FnExactEqGates.j0 k l1 l2 t950 t951 t961 t964 bt967.2.2.2.1 bt967.2.2.2.2 true a0_0 l0_1 l0_2 t943 t944 t947 bt953.1 bt953.2.1 bt953.2.2 bt967.1 bt967.2.1 bt967.2.2.1))))))) = some true := H
    have A16 := Aside0.mk A160
    clear A160
    replace H := Option.bind_eq_some_iff.mp H
    obtain ⟨⟨t953, t954, t957⟩, A170, H⟩ := H
    replace H : ((laws_toIntS.f k l1).bind fun t961 => ((laws_toIntS.f k l2).bind fun t964 => ((impl_EqGates.f k t953 t954 t957 t961 t964).bind fun bt967 => ((laws_eqCircuit.f k bt967.1 bt967.2.1 bt967.2.2.1 t943 t944 t947).bind fun t977 => (if t977 = true then (if bt967.2.2.2.1 = t950 then (laws_FnExactEqGates.j0 k l1 l2 t950 t951 t961 t964 bt967.2.2.2.1 bt967.2.2.2.2 (bt967.2.2.2.2 != t951) a0_0 l0_1 l0_2 t943 t944 t947 t953 t954 t957 bt967.1 bt967.2.1 bt967.2.2.1) else (laws_FnExactEqGates.j0 k l1 l2 t950 t951 t961 t964 bt967.2.2.2.1 bt967.2.2.2.2 true a0_0 l0_1 l0_2 t943 t944 t947 t953 t954 t957 bt967.1 bt967.2.1 bt967.2.2.1)) else (laws_FnExactEqGates.j0 k l1 l2 t950 t951 t961 t964 bt967.2.2.2.1 bt967.2.2.2.2 true a0_0 l0_1 l0_2 t943 t944 t947 t953 t954 t957 bt967.1 bt967.2.1 bt967.2.2.1)))))) = some true := H
    have A17 := Aside0.mk A170
    clear A170
    replace H := Option.bind_eq_some_iff.mp H
    obtain ⟨t961, A180, H⟩ := H
    replace H : ((laws_toIntS.f k l2).bind fun t964 => ((impl_EqGates.f k t953 t954 t957 t961 t964).bind fun bt967 => ((laws_eqCircuit.f k bt967.1 bt967.2.1 bt967.2.2.1 t943 t944 t947).bind fun t977 => (if t977 = true then (if bt967.2.2.2.1 = t950 then (laws_FnExactEqGates.j0 k l1 l2 t950 t951 t961 t964 bt967.2.2.2.1 bt967.2.2.2.2 (bt967.2.2.2.2 != t951) a0_0 l0_1 l0_2 t943 t944 t947 t953 t954 t957 bt967.1 bt967.2.1 bt967.2.2.1) else (laws_FnExactEqGates.j0 k l1 l2 t950 t951 t961 t964 bt967.2.2.2.1 bt967.2.2.2.2 true a0_0 l0_1 l0_2 t943 t944 t947 t953 t954 t957 bt967.1 bt967.2.1 bt967.2.2.1)) else (laws_FnExactEqGates.j0 k l1 l2 t950 t951 t961 t964 bt967.2.2.2.1 bt967.2.2.2.2 true a0_0 l0_1 l0_2 t943 t944 t947 t953 t954 t957 bt967.1 bt967.2.1 bt967.2.2.1))))) = some true := H
    have A18 := Aside0.mk A180
    clear A180
    replace H := Option.bind_eq_some_iff.mp H
    obtain ⟨t964, A190, H⟩ := H
    replace H : ((impl_EqGates.f k t953 t954 t957 t961 t964).bind fun bt967 => ((laws_eqCircuit.f k bt967.1 bt967.2.1 bt967.2.2.1 t943 t944 t947).bind fun t977 => (if t977 = true then (if bt967.2.2.2.1 = t950 then (laws_FnExactEqGates.j0 k l1 l2 t950 t951 t961 t964 bt967.2.2.2.1 bt967.2.2.2.2 (bt967.2.2.2.2 != t951) a0_0 l0_1 l0_2 t943 t944 t947 t953 t954 t957 bt967.1 bt967.2.1 bt967.2.2.1) else (laws_FnExactEqGates.j0 k l1 l2 t950 t951 t961 t964 bt967.2.2.2.1 bt967.2.2.2.2 true a0_0 l0_1 l0_2 t943 t944 t947 t953 t954 t957 bt967.1 bt967.2.1 bt967.2.2.1)) else (laws_FnExactEqGates.j0 k l1 l2 t950 t951 t961 t964 bt967.2.2.2.1 bt967.2.2.2.2 true a0_0 l0_1 l0_2 t943 t944 t947 t953 t954 t957 bt967.1 bt967.2.1 bt967.2.2.1)))) = some true := H
    have A19 := Aside0.mk A190
    clear A190
    replace H := Option.bind_eq_some_iff.mp H
    obtain ⟨⟨t967, t968, t971, t974, t975⟩, A200, H⟩ := H
    replace H : ((laws_eqCircuit.f k t967 t968 t971 t943 t944 t947).bind fun t977 => (if t977 = true then (if t974 = t950 then (laws_FnExactEqGates.j0 k l1 l2 t950 t951 t961 t964 t974 t975 (t975 != t951) a0_0 l0_1 l0_2 t943 t944 t947 t953 t954 t957 t967 t968 t971) else (laws_FnExactEqGates.j0 k l1 l2 t950 t951 t961 t964 t974 t975 true a0_0 l0_1 l0_2 t943 t944 t947 t953 t954 t957 t967 t968 t971)) else (laws_FnExactEqGates.j0 k l1 l2 t950 t951 t961 t964 t974 t975 true a0_0 l0_1 l0_2 t943 t944 t947 t953 t954 t957 t967 t968 t971))) = some true := H
    have A20 := Aside0.mk A200
    clear A200
    have HC21 := Aside0.mk H
    clear H
    go_enter Try.func10, Try.ntmps10
    go_upto_region 14 with (first | ((with_reducible refine gate_dst (N := 3) rfl ?_); refine box_event ?hg (N := 3) ?hd (cs := #[.int .i64 a0_0, .slice A0_1 l0_1.length c0_1, .slice A0_2 l0_2.length c0_2]) (t := 25) ?hr ?_; (case hd => rfl); (case hg => rfl); (case hr => first | (go_simp; done) | (go_simp; rfl)); intro gb928 hg w22 hbox hb; have n0_ := Aside0.mk (below_step (qB) hb); have n1_ := Aside0.mk (hbox); have n2_ := Aside0.mk ((by rw [hg]; exact (below_size (qB)) : w.heap.size ≤ gb928)); have n3_ := Aside0.mk ((by rw [hg]; exact (below_size (qB)) : w.heap.size ≤ gb928)); clear HB; have HB := n0_; have BK928 := n1_; have GW928 := n2_; have GE928 := n3_; clear n0_ n1_ n2_ n3_; clear hb hbox hg; have hcz23_0 : w22.cell? ⟨gb928, 0, none⟩ = some (.int .i64 a0_0) := (blk_cell BK928.out 0).trans rfl; have hcz23_1 : w22.cell? ⟨gb928, 1, none⟩ = some (.slice A0_1 l0_1.length c0_1) := (blk_cell BK928.out 1).trans rfl; have hcz23_2 : w22.cell? ⟨gb928, 2, none⟩ = some (.slice A0_2 l0_2.length c0_2) := (blk_cell BK928.out 2).trans rfl; have hfz23_0 := blk_frozen BK928.out 0; have hfz23_1 := blk_frozen BK928.out 1; have hfz23_2 := blk_frozen BK928.out 2) | ((with_reducible refine gate_callee (f := 11) rfl ?_); refine goesL_ (some 31) rfl rfl Try.func11 (by kernel_rfl) rfl #[.agg #[.int .i64 a0_0, .slice A0_1 l0_1.length c0_1, .slice A0_2 l0_2.length c0_2], .int .i64 1048576] rfl qG ?_; (with_reducible refine (laws_szCircuit.calls a0_0 _ _ l0_1 _ _ l0_2 1048576 t929 _ ?side1 ?side2 ?side3 ?side4 A8.out).mono ?_); (case side1 => exact qC (Kd.C_below HR0_1.out HB.out)); (case side2 => exact HC0_1.out); (case side3 => exact qC (Kd.C_below HR0_2.out HB.out)); (case side4 => exact HC0_2.out); rintro e w24 ⟨rfl, hb⟩; refine ⟨_, rfl, ?_⟩; have n0_ := Aside0.mk (blk_below (g := gb928) (o := .cells #[.int .i64 a0_0, .slice A0_1 l0_1.length c0_1, .slice A0_2 l0_2.length c0_2] 25 (0, 0)) (qK BK928.out) hb); have n1_ := Aside0.mk (below_step (qB) hb); clear BK928; clear HB; have BK928 := n0_; have HB := n1_; clear n0_ n1_; (try clear hb); (try clear hb2); (try clear hk); (try clear hi); have hcz25_0 : w24.cell? ⟨gb928, 0, none⟩ = some (.int .i64 a0_0) := (blk_cell BK928.out 0).trans rfl; have hcz25_1 : w24.cell? ⟨gb928, 1, none⟩ = some (.slice A0_1 l0_1.length c0_1) := (blk_cell BK928.out 1).trans rfl; have hcz25_2 : w24.cell? ⟨gb928, 2, none⟩ = some (.slice A0_2 l0_2.length c0_2) := (blk_cell BK928.out 2).trans rfl; have hfz25_0 := blk_frozen BK928.out 0; have hfz25_1 := blk_frozen BK928.out 1; have hfz25_2 := blk_frozen BK928.out 2) | ((with_reducible refine gate_callee (f := 13) rfl ?_); refine goesL_ (some 36) rfl rfl Try.func13 (by kernel_rfl) rfl #[.agg #[.int .i64 a0_0, .slice A0_1 l0_1.length c0_1, .slice A0_2 l0_2.length c0_2]] rfl qG ?_; (with_reducible refine (laws_toCircuit.calls k a0_0 _ _ l0_1 _ _ l0_2 t930 t931 t934 _ ?side1 ?side2 ?side3 ?side4 A13.out).mono ?_); (case side1 => exact qC (Kd.C_below HR0_1.out HB.out)); (case side2 => exact HC0_1.out); (case side3 => exact qC (Kd.C_below HR0_2.out HB.out)); (case side4 => exact HC0_2.out); rintro e w26 ⟨v932, v935, rfl, ho0, ho1, hb⟩; refine ⟨_, rfl, ?_⟩; have n0_ := Aside0.mk (Kd.R_lower ho0 (below_size (qB))); have n1_ := Aside0.mk (Kd.R_lower ho1 (below_size (qB))); have n2_ := Aside0.mk (blk_below (g := gb928) (o := .cells #[.int .i64 a0_0, .slice A0_1 l0_1.length c0_1, .slice A0_2 l0_2.length c0_2] 25 (0, 0)) (qK BK928.out) hb); have n3_ := Aside0.mk (below_step (qB) hb); clear BK928; clear HB; have HO933 := n0_; have HO936 := n1_; have BK928 := n2_; have HB := n3_; clear n0_ n1_ n2_ n3_; (try clear hb); (try clear hb2); (try clear hk); (try clear hi); (try clear ho0); (try clear ho1)) | ((with_reducible refine gate_callee (f := 34) rfl ?_); refine goesL_ (some 38) rfl rfl Try.func34 (by kernel_rfl) rfl #[.slice A1 l1.length c1] rfl qG ?_; (with_reducible refine (laws_toIntS.calls k _ _ l1 t937 _ ?side1 ?side2 A14.out).mono ?_); (case side1 => exact qC (Kd.C_below HR1.out HB.out)); (case side2 => exact HC1.out); rintro e w27 ⟨v938, rfl, ho0, hb⟩; refine ⟨_, rfl, ?_⟩; have n0_ := Aside0.mk (Kd.R_below (qR HO933.out) hb); have n1_ := Aside0.mk (Kd.R_elder' (qR HO936.out) (Kd.R_base ho0) hb); have n2_ := Aside0.mk (Kd.R_lower (Kd.R_new' ho0 (Kd.R_lt (qR HO936.out))) (below_size (qB))); have n3_ := Aside0.mk (blk_below (g := gb928) (o := .cells #[.int .i64 a0_0, .slice A0_1 l0_1.length c0_1, .slice A0_2 l0_2.length c0_2] 25 (0, 0)) (qK BK928.out) hb); have n4_ := Aside0.mk (below_step (qB) hb); clear HO933; clear HO936; clear BK928; clear HB; have HO933 := n0_; have HO936 := n1_; have HO939 := n2_; have BK928 := n3_; have HB := n4_; clear n0_ n1_ n2_ n3_ n4_; (try clear hb); (try clear hb2); (try clear hk); (try clear hi); (try clear ho0)) | ((with_reducible refine gate_callee (f := 34) rfl ?_); refine goesL_ (some 40) rfl rfl Try.func34 (by kernel_rfl) rfl #[.slice A2 l2.length c2] rfl qG ?_; (with_reducible refine (laws_toIntS.calls k _ _ l2 t940 _ ?side1 ?side2 A15.out).mono ?_); (case side1 => exact qC (Kd.C_below HR2.out HB.out)); (case side2 => exact HC2.out); rintro e w28 ⟨v941, rfl, ho0, hb⟩; refine ⟨_, rfl, ?_⟩; have n0_ := Aside0.mk (Kd.R_below (qR HO933.out) hb); have n1_ := Aside0.mk (Kd.R_elder' (qR HO936.out) (Kd.R_base ho0) hb); have n2_ := Aside0.mk (Kd.R_elder' (qR HO939.out) (Kd.R_base ho0) hb); have n3_ := Aside0.mk (Kd.R_lower (Kd.R_new' (Kd.R_new' ho0 (Kd.R_lt (qR HO936.out))) (Kd.R_lt (qR HO939.out))) (below_size (qB))); have n4_ := Aside0.mk (blk_below (g := gb928) (o := .cells #[.int .i64 a0_0, .slice A0_1 l0_1.length c0_1, .slice A0_2 l0_2.length c0_2] 25 (0, 0)) (qK BK928.out) hb); have n5_ := Aside0.mk (below_step (qB) hb); clear HO933; clear HO936; clear HO939; clear BK928; clear HB; have HO933 := n0_; have HO936 := n1_; have HO939 := n2_; have HO942 := n3_; have BK928 := n4_; have HB := n5_; clear n0_ n1_ n2_ n3_ n4_ n5_; (try clear hb); (try clear hb2); (try clear hk); (try clear hi); (try clear ho0); obtain ⟨Ao29, co29, eo29⟩ := Kd.R_slice HO933.out; subst eo29; obtain ⟨Ao30, co30, eo30⟩ := Kd.R_slice HO936.out; subst eo30; obtain ⟨Ao31, co31, eo31⟩ := Kd.R_slice HO939.out; subst eo31; obtain ⟨Ao32, co32, eo32⟩ := Kd.R_slice HO942.out; subst eo32) | ((with_reducible refine gate_callee (f := 38) rfl ?_); refine goesL_ (some 41) rfl rfl Try.func38 (by kernel_rfl) rfl #[.agg #[.int .i64 t930, .slice Ao29 t931.length co29, .slice Ao30 t934.length co30], .slice Ao31 t937.length co31, .slice Ao32 t940.length co32] rfl qG ?_; (with_reducible refine (spec_EqGates.calls k t930 _ _ t931 _ _ t934 _ _ t937 _ _ t940 t943 t944 t947 t950 t951 _ ?side1 ?side2 ?side3 ?side4 ?side5 ?side6 ?side7 ?side8 A16.out).mono ?_); (case side1 => repeat (first | exact (Kd.R_reads' HO933.out).2.2 | (with_reducible refine Kd.C_alloc ?_ _) | (with_reducible refine Kd.C_drewN ?_ _) | (with_reducible refine Kd.C_drew ?_))); (case side2 => exact (Kd.R_reads' HO933.out).2.1); (case side3 => repeat (first | exact (Kd.R_reads' HO936.out).2.2 | (with_reducible refine Kd.C_alloc ?_ _) | (with_reducible refine Kd.C_drewN ?_ _) | (with_reducible refine Kd.C_drew ?_))); (case side4 => exact (Kd.R_reads' HO936.out).2.1); (case side5 => repeat (first | exact (Kd.R_reads' HO939.out).2.2 | (with_reducible refine Kd.C_alloc ?_ _) | (with_reducible refine Kd.C_drewN ?_ _) | (with_reducible refine Kd.C_drew ?_))); (case side6 => exact (Kd.R_reads' HO939.out).2.1); (case side7 => repeat (first | exact (Kd.R_reads' HO942.out).2.2 | (with_reducible refine Kd.C_alloc ?_ _) | (with_reducible refine Kd.C_drewN ?_ _) | (with_reducible refine Kd.C_drew ?_))); (case side8 => exact (Kd.R_reads' HO942.out).2.1); rintro e w33 ⟨v945, v948, rfl, ho0, ho1, hb⟩; refine ⟨_, rfl, ?_⟩; have n0_ := Aside0.mk (Kd.R_elder' (qR HO933.out) (Kd.R_base ho0) hb); have n1_ := Aside0.mk (Kd.R_elder' (qR HO936.out) (Kd.R_base ho1) hb); have n2_ := Aside0.mk (Kd.R_elder' (qR HO939.out) (Kd.R_base ho1) hb); have n3_ := Aside0.mk (Kd.R_elder' (qR HO942.out) (Kd.R_base ho1) hb); have n4_ := Aside0.mk (Kd.R_lower (Kd.R_new' ho0 (Kd.R_lt (qR HO933.out))) (below_size (qB))); have n5_ := Aside0.mk (Kd.R_lower (Kd.R_new' (Kd.R_new' (Kd.R_new' ho1 (Kd.R_lt (qR HO936.out))) (Kd.R_lt (qR HO939.out))) (Kd.R_lt (qR HO942.out))) (below_size (qB))); have n6_ := Aside0.mk (blk_below (g := gb928) (o := .cells #[.int .i64 a0_0, .slice A0_1 l0_1.length c0_1, .slice A0_2 l0_2.length c0_2] 25 (0, 0)) (qK BK928.out) hb); have n7_ := Aside0.mk (below_step (qB) hb); clear HO933; clear HO936; clear HO939; clear HO942; clear BK928; clear HB; have HO933 := n0_; have HO936 := n1_; have HO939 := n2_; have HO942 := n3_; have HO946 := n4_; have HO949 := n5_; have BK928 := n6_; have HB := n7_; clear n0_ n1_ n2_ n3_ n4_ n5_ n6_ n7_; (try clear hb); (try clear hb2); (try clear hk); (try clear hi); (try clear ho0); (try clear ho1)) | ((with_reducible refine gate_dst (N := 8) rfl ?_); refine box_event ?hg (N := 8) ?hd (cs := #[.int .i64 0, .slice none 0 0, .slice none 0 0]) (t := 30) ?hr ?_; (case hd => rfl); (case hg => rfl); (case hr => first | (go_simp; done) | (go_simp; rfl)); intro gb952 hg w34 hbox hb; have n0_ := Aside0.mk (Kd.R_below (qR HO933.out) hb); have n1_ := Aside0.mk (Kd.R_below (qR HO936.out) hb); have n2_ := Aside0.mk (Kd.R_below (qR HO939.out) hb); have n3_ := Aside0.mk (Kd.R_below (qR HO942.out) hb); have n4_ := Aside0.mk (Kd.R_below (qR HO946.out) hb); have n5_ := Aside0.mk (Kd.R_below (qR HO949.out) hb); have n6_ := Aside0.mk (blk_below (g := gb928) (o := .cells #[.int .i64 a0_0, .slice A0_1 l0_1.length c0_1, .slice A0_2 l0_2.length c0_2] 25 (0, 0)) (qK BK928.out) hb); have n7_ := Aside0.mk (below_step (qB) hb); have n8_ := Aside0.mk (hbox); have n9_ := Aside0.mk ((by rw [hg]; exact (below_size (qB)) : w.heap.size ≤ gb952)); have n10_ := Aside0.mk ((by rw [hg]; exact (below_size (qB)) : w.heap.size ≤ gb952)); have n11_ := Aside0.mk ((by rw [hg]; exact Nat.ne_of_lt (blk_lt (g := gb928) (o := .cells #[.int .i64 a0_0, .slice A0_1 l0_1.length c0_1, .slice A0_2 l0_2.length c0_2] 25 (0, 0)) (qK BK928.out)) : gb928 ≠ gb952)); have n12_ := Aside0.mk ((by rw [hg]; exact Nat.ne_of_gt (blk_lt (g := gb928) (o := .cells #[.int .i64 a0_0, .slice A0_1 l0_1.length c0_1, .slice A0_2 l0_2.length c0_2] 25 (0, 0)) (qK BK928.out)) : gb952 ≠ gb928)); clear HO933; clear HO936; clear HO939; clear HO942; clear HO946; clear HO949; clear BK928; clear HB; have HO933 := n0_; have HO936 := n1_; have HO939 := n2_; have HO942 := n3_; have HO946 := n4_; have HO949 := n5_; have BK928 := n6_; have HB := n7_; have BK952 := n8_; have GW952 := n9_; have GE952 := n10_; have NB928_952 := n11_; have NB952_928 := n12_; clear n0_ n1_ n2_ n3_ n4_ n5_ n6_ n7_ n8_ n9_ n10_ n11_ n12_; clear hb hbox hg; have hnb35 := NB952_928.out; have hnc35 := NB928_952.out; have hcz36_0 : w34.cell? ⟨gb952, 0, none⟩ = some (.int .i64 0) := (blk_cell BK952.out 0).trans rfl; have hcz36_1 : w34.cell? ⟨gb952, 1, none⟩ = some (.slice none 0 0) := (blk_cell BK952.out 1).trans rfl; have hcz36_2 : w34.cell? ⟨gb952, 2, none⟩ = some (.slice none 0 0) := (blk_cell BK952.out 2).trans rfl; have hfz36_0 := blk_frozen BK952.out 0; have hfz36_1 := blk_frozen BK952.out 1; have hfz36_2 := blk_frozen BK952.out 2; obtain ⟨Ao37, co37, eo37⟩ := Kd.R_slice HO946.out; subst eo37; obtain ⟨Ao38, co38, eo38⟩ := Kd.R_slice HO949.out; subst eo38; have hcz39_0 : w34.cell? ⟨gb928, 0, none⟩ = some (.int .i64 a0_0) := (blk_cell BK928.out 0).trans rfl; have hcz39_1 : w34.cell? ⟨gb928, 1, none⟩ = some (.slice A0_1 l0_1.length c0_1) := (blk_cell BK928.out 1).trans rfl; have hcz39_2 : w34.cell? ⟨gb928, 2, none⟩ = some (.slice A0_2 l0_2.length c0_2) := (blk_cell BK928.out 2).trans rfl; have hfz39_0 := blk_frozen BK928.out 0; have hfz39_1 := blk_frozen BK928.out 1; have hfz39_2 := blk_frozen BK928.out 2) | ((with_reducible refine gate_callee (f := 13) rfl ?_); refine goesL_ (some 46) rfl rfl Try.func13 (by kernel_rfl) rfl #[.agg #[.int .i64 a0_0, .slice A0_1 l0_1.length c0_1, .slice A0_2 l0_2.length c0_2]] rfl qG ?_; (with_reducible refine (laws_toCircuit.calls k a0_0 _ _ l0_1 _ _ l0_2 t953 t954 t957 _ ?side1 ?side2 ?side3 ?side4 A17.out).mono ?_); (case side1 => exact Kd.C_below HR0_1.out (qB)); (case side2 => exact HC0_1.out); (case side3 => exact Kd.C_below HR0_2.out (qB)); (case side4 => exact HC0_2.out); rintro e w40 ⟨v955, v958, rfl, ho0, ho1, hb⟩; refine ⟨_, rfl, ?_⟩; have n0_ := Aside0.mk (Kd.R_elder' (by (with_reducible repeat (first | apply Kd.R_alloc | apply Kd.R_drewN | apply Kd.R_drew)); exact (Kd.R_mono (Kd.R_far (p := ⟨gb952, 2, none⟩) (Kd.R_far (p := ⟨gb952, 1, none⟩) (Kd.R_far (p := ⟨gb952, 0, none⟩) (Kd.R_types HO933.out BK952.out (by decide)) (fun _ hk => hk.2) (.int .i64 t943)) (fun _ hk => hk.2) (.slice Ao37 t944.length co37)) (fun _ hk => hk.2) (.slice Ao38 t947.length co38)) (fun _ h_ => h_.1))) (Kd.R_base ho0) hb); have n1_ := Aside0.mk (Kd.R_elder' (by (with_reducible repeat (first | apply Kd.R_alloc | apply Kd.R_drewN | apply Kd.R_drew)); exact (Kd.R_mono (Kd.R_far (p := ⟨gb952, 2, none⟩) (Kd.R_far (p := ⟨gb952, 1, none⟩) (Kd.R_far (p := ⟨gb952, 0, none⟩) (Kd.R_types HO936.out BK952.out (by decide)) (fun _ hk => hk.2) (.int .i64 t943)) (fun _ hk => hk.2) (.slice Ao37 t944.length co37)) (fun _ hk => hk.2) (.slice Ao38 t947.length co38)) (fun _ h_ => h_.1))) (Kd.R_base ho1) hb); have n2_ := Aside0.mk (Kd.R_elder' (by (with_reducible repeat (first | apply Kd.R_alloc | apply Kd.R_drewN | apply Kd.R_drew)); exact (Kd.R_mono (Kd.R_far (p := ⟨gb952, 2, none⟩) (Kd.R_far (p := ⟨gb952, 1, none⟩) (Kd.R_far (p := ⟨gb952, 0, none⟩) (Kd.R_types HO939.out BK952.out (by decide)) (fun _ hk => hk.2) (.int .i64 t943)) (fun _ hk => hk.2) (.slice Ao37 t944.length co37)) (fun _ hk => hk.2) (.slice Ao38 t947.length co38)) (fun _ h_ => h_.1))) (Kd.R_base ho1) hb); have n3_ := Aside0.mk (Kd.R_elder' (by (with_reducible repeat (first | apply Kd.R_alloc | apply Kd.R_drewN | apply Kd.R_drew)); exact (Kd.R_mono (Kd.R_far (p := ⟨gb952, 2, none⟩) (Kd.R_far (p := ⟨gb952, 1, none⟩) (Kd.R_far (p := ⟨gb952, 0, none⟩) (Kd.R_types HO942.out BK952.out (by decide)) (fun _ hk => hk.2) (.int .i64 t943)) (fun _ hk => hk.2) (.slice Ao37 t944.length co37)) (fun _ hk => hk.2) (.slice Ao38 t947.length co38)) (fun _ h_ => h_.1))) (Kd.R_base ho1) hb); have n4_ := Aside0.mk (Kd.R_elder' (by (with_reducible repeat (first | apply Kd.R_alloc | apply Kd.R_drewN | apply Kd.R_drew)); exact (Kd.R_mono (Kd.R_far (p := ⟨gb952, 2, none⟩) (Kd.R_far (p := ⟨gb952, 1, none⟩) (Kd.R_far (p := ⟨gb952, 0, none⟩) (Kd.R_types HO946.out BK952.out (by decide)) (fun _ hk => hk.2) (.int .i64 t943)) (fun _ hk => hk.2) (.slice Ao37 t944.length co37)) (fun _ hk => hk.2) (.slice Ao38 t947.length co38)) (fun _ h_ => h_.1))) (Kd.R_base ho0) hb); have n5_ := Aside0.mk (Kd.R_elder' (by (with_reducible repeat (first | apply Kd.R_alloc | apply Kd.R_drewN | apply Kd.R_drew)); exact (Kd.R_mono (Kd.R_far (p := ⟨gb952, 2, none⟩) (Kd.R_far (p := ⟨gb952, 1, none⟩) (Kd.R_far (p := ⟨gb952, 0, none⟩) (Kd.R_types HO949.out BK952.out (by decide)) (fun _ hk => hk.2) (.int .i64 t943)) (fun _ hk => hk.2) (.slice Ao37 t944.length co37)) (fun _ hk => hk.2) (.slice Ao38 t947.length co38)) (fun _ h_ => h_.1))) (Kd.R_base ho1) hb); have n6_ := Aside0.mk (Kd.R_lower (Kd.R_new' (Kd.R_new' ho0 (Kd.R_lt (by (with_reducible repeat (first | apply Kd.R_alloc | apply Kd.R_drewN | apply Kd.R_drew)); exact (Kd.R_mono (Kd.R_far (p := ⟨gb952, 2, none⟩) (Kd.R_far (p := ⟨gb952, 1, none⟩) (Kd.R_far (p := ⟨gb952, 0, none⟩) (Kd.R_types HO933.out BK952.out (by decide)) (fun _ hk => hk.2) (.int .i64 t943)) (fun _ hk => hk.2) (.slice Ao37 t944.length co37)) (fun _ hk => hk.2) (.slice Ao38 t947.length co38)) (fun _ h_ => h_.1))))) (Kd.R_lt (by (with_reducible repeat (first | apply Kd.R_alloc | apply Kd.R_drewN | apply Kd.R_drew)); exact (Kd.R_mono (Kd.R_far (p := ⟨gb952, 2, none⟩) (Kd.R_far (p := ⟨gb952, 1, none⟩) (Kd.R_far (p := ⟨gb952, 0, none⟩) (Kd.R_types HO946.out BK952.out (by decide)) (fun _ hk => hk.2) (.int .i64 t943)) (fun _ hk => hk.2) (.slice Ao37 t944.length co37)) (fun _ hk => hk.2) (.slice Ao38 t947.length co38)) (fun _ h_ => h_.1))))) (below_size (qB))); have n7_ := Aside0.mk (Kd.R_lower (Kd.R_new' (Kd.R_new' (Kd.R_new' (Kd.R_new' ho1 (Kd.R_lt (by (with_reducible repeat (first | apply Kd.R_alloc | apply Kd.R_drewN | apply Kd.R_drew)); exact (Kd.R_mono (Kd.R_far (p := ⟨gb952, 2, none⟩) (Kd.R_far (p := ⟨gb952, 1, none⟩) (Kd.R_far (p := ⟨gb952, 0, none⟩) (Kd.R_types HO936.out BK952.out (by decide)) (fun _ hk => hk.2) (.int .i64 t943)) (fun _ hk => hk.2) (.slice Ao37 t944.length co37)) (fun _ hk => hk.2) (.slice Ao38 t947.length co38)) (fun _ h_ => h_.1))))) (Kd.R_lt (by (with_reducible repeat (first | apply Kd.R_alloc | apply Kd.R_drewN | apply Kd.R_drew)); exact (Kd.R_mono (Kd.R_far (p := ⟨gb952, 2, none⟩) (Kd.R_far (p := ⟨gb952, 1, none⟩) (Kd.R_far (p := ⟨gb952, 0, none⟩) (Kd.R_types HO939.out BK952.out (by decide)) (fun _ hk => hk.2) (.int .i64 t943)) (fun _ hk => hk.2) (.slice Ao37 t944.length co37)) (fun _ hk => hk.2) (.slice Ao38 t947.length co38)) (fun _ h_ => h_.1))))) (Kd.R_lt (by (with_reducible repeat (first | apply Kd.R_alloc | apply Kd.R_drewN | apply Kd.R_drew)); exact (Kd.R_mono (Kd.R_far (p := ⟨gb952, 2, none⟩) (Kd.R_far (p := ⟨gb952, 1, none⟩) (Kd.R_far (p := ⟨gb952, 0, none⟩) (Kd.R_types HO942.out BK952.out (by decide)) (fun _ hk => hk.2) (.int .i64 t943)) (fun _ hk => hk.2) (.slice Ao37 t944.length co37)) (fun _ hk => hk.2) (.slice Ao38 t947.length co38)) (fun _ h_ => h_.1))))) (Kd.R_lt (by (with_reducible repeat (first | apply Kd.R_alloc | apply Kd.R_drewN | apply Kd.R_drew)); exact (Kd.R_mono (Kd.R_far (p := ⟨gb952, 2, none⟩) (Kd.R_far (p := ⟨gb952, 1, none⟩) (Kd.R_far (p := ⟨gb952, 0, none⟩) (Kd.R_types HO949.out BK952.out (by decide)) (fun _ hk => hk.2) (.int .i64 t943)) (fun _ hk => hk.2) (.slice Ao37 t944.length co37)) (fun _ hk => hk.2) (.slice Ao38 t947.length co38)) (fun _ h_ => h_.1))))) (below_size (qB))); have n8_ := Aside0.mk (blk_below (g := gb928) (o := .cells #[.int .i64 a0_0, .slice A0_1 l0_1.length c0_1, .slice A0_2 l0_2.length c0_2] 25 (0, 0)) (qF BK928.out) hb); have n9_ := Aside0.mk (blk_below (g := gb952) (o := .cells #[.int .i64 t943, .slice Ao37 t944.length co37, .slice Ao38 t947.length co38] 30 (0, 0)) (by (with_reducible repeat (first | refine blk_drewN ?_ _ | refine blk_drew ?_ | refine blk_alloc ?_ _)); refine blk_put (cs := #[.int .i64 t943, .slice Ao37 t944.length co37, .slice none 0 0]) ?_ 2 _ rfl; refine blk_put (cs := #[.int .i64 t943, .slice none 0 0, .slice none 0 0]) ?_ 1 _ rfl; refine blk_put (cs := #[.int .i64 0, .slice none 0 0, .slice none 0 0]) ?_ 0 _ rfl; exact qK BK952.out) hb); have n10_ := Aside0.mk (below_step (qB) hb); clear HO933; clear HO936; clear HO939; clear HO942; clear HO946; clear HO949; clear BK928; clear BK952; clear HB; have HO933 := n0_; have HO936 := n1_; have HO939 := n2_; have HO942 := n3_; have HO946 := n4_; have HO949 := n5_; have HO956 := n6_; have HO959 := n7_; have BK928 := n8_; have BK952 := n9_; have HB := n10_; clear n0_ n1_ n2_ n3_ n4_ n5_ n6_ n7_ n8_ n9_ n10_; (try clear hb); (try clear hb2); (try clear hk); (try clear hi); (try clear ho0); (try clear ho1)) | ((with_reducible refine gate_dst (N := 11) rfl ?_); refine box_event ?hg (N := 11) ?hd (cs := #[.int .i64 0, .slice none 0 0, .slice none 0 0]) (t := 30) ?hr ?_; (case hd => rfl); (case hg => rfl); (case hr => first | (go_simp; done) | (go_simp; rfl)); intro gb960 hg w41 hbox hb; have n0_ := Aside0.mk (Kd.R_below (qR HO933.out) hb); have n1_ := Aside0.mk (Kd.R_below (qR HO936.out) hb); have n2_ := Aside0.mk (Kd.R_below (qR HO939.out) hb); have n3_ := Aside0.mk (Kd.R_below (qR HO942.out) hb); have n4_ := Aside0.mk (Kd.R_below (qR HO946.out) hb); have n5_ := Aside0.mk (Kd.R_below (qR HO949.out) hb); have n6_ := Aside0.mk (Kd.R_below (qR HO956.out) hb); have n7_ := Aside0.mk (Kd.R_below (qR HO959.out) hb); have n8_ := Aside0.mk (blk_below (g := gb928) (o := .cells #[.int .i64 a0_0, .slice A0_1 l0_1.length c0_1, .slice A0_2 l0_2.length c0_2] 25 (0, 0)) (qK BK928.out) hb); have n9_ := Aside0.mk (blk_below (g := gb952) (o := .cells #[.int .i64 t943, .slice Ao37 t944.length co37, .slice Ao38 t947.length co38] 30 (0, 0)) (qK BK952.out) hb); have n10_ := Aside0.mk (below_step (qB) hb); have n11_ := Aside0.mk (hbox); have n12_ := Aside0.mk ((by rw [hg]; exact (below_size (qB)) : w.heap.size ≤ gb960)); have n13_ := Aside0.mk ((by rw [hg]; exact (below_size (qB)) : w.heap.size ≤ gb960)); have n14_ := Aside0.mk ((by rw [hg]; exact Nat.ne_of_lt (blk_lt (g := gb928) (o := .cells #[.int .i64 a0_0, .slice A0_1 l0_1.length c0_1, .slice A0_2 l0_2.length c0_2] 25 (0, 0)) (qK BK928.out)) : gb928 ≠ gb960)); have n15_ := Aside0.mk ((by rw [hg]; exact Nat.ne_of_gt (blk_lt (g := gb928) (o := .cells #[.int .i64 a0_0, .slice A0_1 l0_1.length c0_1, .slice A0_2 l0_2.length c0_2] 25 (0, 0)) (qK BK928.out)) : gb960 ≠ gb928)); have n16_ := Aside0.mk ((by rw [hg]; exact Nat.ne_of_lt (blk_lt (g := gb952) (o := .cells #[.int .i64 t943, .slice Ao37 t944.length co37, .slice Ao38 t947.length co38] 30 (0, 0)) (qK BK952.out)) : gb952 ≠ gb960)); have n17_ := Aside0.mk ((by rw [hg]; exact Nat.ne_of_gt (blk_lt (g := gb952) (o := .cells #[.int .i64 t943, .slice Ao37 t944.length co37, .slice Ao38 t947.length co38] 30 (0, 0)) (qK BK952.out)) : gb960 ≠ gb952)); clear HO933; clear HO936; clear HO939; clear HO942; clear HO946; clear HO949; clear HO956; clear HO959; clear BK928; clear BK952; clear HB; have HO933 := n0_; have HO936 := n1_; have HO939 := n2_; have HO942 := n3_; have HO946 := n4_; have HO949 := n5_; have HO956 := n6_; have HO959 := n7_; have BK928 := n8_; have BK952 := n9_; have HB := n10_; have BK960 := n11_; have GW960 := n12_; have GE960 := n13_; have NB928_960 := n14_; have NB960_928 := n15_; have NB952_960 := n16_; have NB960_952 := n17_; clear n0_ n1_ n2_ n3_ n4_ n5_ n6_ n7_ n8_ n9_ n10_ n11_ n12_ n13_ n14_ n15_ n16_ n17_; clear hb hbox hg; have hnb42 := NB960_928.out; have hnc42 := NB928_960.out; have hnb43 := NB960_952.out; have hnc43 := NB952_960.out; have hcz44_0 : w41.cell? ⟨gb960, 0, none⟩ = some (.int .i64 0) := (blk_cell BK960.out 0).trans rfl; have hcz44_1 : w41.cell? ⟨gb960, 1, none⟩ = some (.slice none 0 0) := (blk_cell BK960.out 1).trans rfl; have hcz44_2 : w41.cell? ⟨gb960, 2, none⟩ = some (.slice none 0 0) := (blk_cell BK960.out 2).trans rfl; have hfz44_0 := blk_frozen BK960.out 0; have hfz44_1 := blk_frozen BK960.out 1; have hfz44_2 := blk_frozen BK960.out 2; obtain ⟨Ao45, co45, eo45⟩ := Kd.R_slice HO956.out; subst eo45; obtain ⟨Ao46, co46, eo46⟩ := Kd.R_slice HO959.out; subst eo46) | ((with_reducible refine gate_callee (f := 34) rfl ?_); refine goesL_ (some 48) rfl rfl Try.func34 (by kernel_rfl) rfl #[.slice A1 l1.length c1] rfl qG ?_; (with_reducible refine (laws_toIntS.calls k _ _ l1 t961 _ ?side1 ?side2 A18.out).mono ?_); (case side1 => exact Kd.C_below HR1.out (qB)); (case side2 => exact HC1.out); rintro e w47 ⟨v962, rfl, ho0, hb⟩; refine ⟨_, rfl, ?_⟩; have n0_ := Aside0.mk (Kd.R_below (by (with_reducible repeat (first | apply Kd.R_alloc | apply Kd.R_drewN | apply Kd.R_drew)); exact (Kd.R_mono (Kd.R_far (p := ⟨gb960, 2, none⟩) (Kd.R_far (p := ⟨gb960, 1, none⟩) (Kd.R_far (p := ⟨gb960, 0, none⟩) (Kd.R_types HO933.out BK960.out (by decide)) (fun _ hk => hk.2) (.int .i64 t953)) (fun _ hk => hk.2) (.slice Ao45 t954.length co45)) (fun _ hk => hk.2) (.slice Ao46 t957.length co46)) (fun _ h_ => h_.1))) hb); have n1_ := Aside0.mk (Kd.R_elder' (by (with_reducible repeat (first | apply Kd.R_alloc | apply Kd.R_drewN | apply Kd.R_drew)); exact (Kd.R_mono (Kd.R_far (p := ⟨gb960, 2, none⟩) (Kd.R_far (p := ⟨gb960, 1, none⟩) (Kd.R_far (p := ⟨gb960, 0, none⟩) (Kd.R_types HO936.out BK960.out (by decide)) (fun _ hk => hk.2) (.int .i64 t953)) (fun _ hk => hk.2) (.slice Ao45 t954.length co45)) (fun _ hk => hk.2) (.slice Ao46 t957.length co46)) (fun _ h_ => h_.1))) (Kd.R_base ho0) hb); have n2_ := Aside0.mk (Kd.R_elder' (by (with_reducible repeat (first | apply Kd.R_alloc | apply Kd.R_drewN | apply Kd.R_drew)); exact (Kd.R_mono (Kd.R_far (p := ⟨gb960, 2, none⟩) (Kd.R_far (p := ⟨gb960, 1, none⟩) (Kd.R_far (p := ⟨gb960, 0, none⟩) (Kd.R_types HO939.out BK960.out (by decide)) (fun _ hk => hk.2) (.int .i64 t953)) (fun _ hk => hk.2) (.slice Ao45 t954.length co45)) (fun _ hk => hk.2) (.slice Ao46 t957.length co46)) (fun _ h_ => h_.1))) (Kd.R_base ho0) hb); have n3_ := Aside0.mk (Kd.R_elder' (by (with_reducible repeat (first | apply Kd.R_alloc | apply Kd.R_drewN | apply Kd.R_drew)); exact (Kd.R_mono (Kd.R_far (p := ⟨gb960, 2, none⟩) (Kd.R_far (p := ⟨gb960, 1, none⟩) (Kd.R_far (p := ⟨gb960, 0, none⟩) (Kd.R_types HO942.out BK960.out (by decide)) (fun _ hk => hk.2) (.int .i64 t953)) (fun _ hk => hk.2) (.slice Ao45 t954.length co45)) (fun _ hk => hk.2) (.slice Ao46 t957.length co46)) (fun _ h_ => h_.1))) (Kd.R_base ho0) hb); have n4_ := Aside0.mk (Kd.R_below (by (with_reducible repeat (first | apply Kd.R_alloc | apply Kd.R_drewN | apply Kd.R_drew)); exact (Kd.R_mono (Kd.R_far (p := ⟨gb960, 2, none⟩) (Kd.R_far (p := ⟨gb960, 1, none⟩) (Kd.R_far (p := ⟨gb960, 0, none⟩) (Kd.R_types HO946.out BK960.out (by decide)) (fun _ hk => hk.2) (.int .i64 t953)) (fun _ hk => hk.2) (.slice Ao45 t954.length co45)) (fun _ hk => hk.2) (.slice Ao46 t957.length co46)) (fun _ h_ => h_.1))) hb); have n5_ := Aside0.mk (Kd.R_elder' (by (with_reducible repeat (first | apply Kd.R_alloc | apply Kd.R_drewN | apply Kd.R_drew)); exact (Kd.R_mono (Kd.R_far (p := ⟨gb960, 2, none⟩) (Kd.R_far (p := ⟨gb960, 1, none⟩) (Kd.R_far (p := ⟨gb960, 0, none⟩) (Kd.R_types HO949.out BK960.out (by decide)) (fun _ hk => hk.2) (.int .i64 t953)) (fun _ hk => hk.2) (.slice Ao45 t954.length co45)) (fun _ hk => hk.2) (.slice Ao46 t957.length co46)) (fun _ h_ => h_.1))) (Kd.R_base ho0) hb); have n6_ := Aside0.mk (Kd.R_below (by (with_reducible repeat (first | apply Kd.R_alloc | apply Kd.R_drewN | apply Kd.R_drew)); exact (Kd.R_mono (Kd.R_far (p := ⟨gb960, 2, none⟩) (Kd.R_far (p := ⟨gb960, 1, none⟩) (Kd.R_far (p := ⟨gb960, 0, none⟩) (Kd.R_types HO956.out BK960.out (by decide)) (fun _ hk => hk.2) (.int .i64 t953)) (fun _ hk => hk.2) (.slice Ao45 t954.length co45)) (fun _ hk => hk.2) (.slice Ao46 t957.length co46)) (fun _ h_ => h_.1))) hb); have n7_ := Aside0.mk (Kd.R_elder' (by (with_reducible repeat (first | apply Kd.R_alloc | apply Kd.R_drewN | apply Kd.R_drew)); exact (Kd.R_mono (Kd.R_far (p := ⟨gb960, 2, none⟩) (Kd.R_far (p := ⟨gb960, 1, none⟩) (Kd.R_far (p := ⟨gb960, 0, none⟩) (Kd.R_types HO959.out BK960.out (by decide)) (fun _ hk => hk.2) (.int .i64 t953)) (fun _ hk => hk.2) (.slice Ao45 t954.length co45)) (fun _ hk => hk.2) (.slice Ao46 t957.length co46)) (fun _ h_ => h_.1))) (Kd.R_base ho0) hb); have n8_ := Aside0.mk (Kd.R_lower (Kd.R_new' (Kd.R_new' (Kd.R_new' (Kd.R_new' (Kd.R_new' ho0 (Kd.R_lt (by (with_reducible repeat (first | apply Kd.R_alloc | apply Kd.R_drewN | apply Kd.R_drew)); exact (Kd.R_mono (Kd.R_far (p := ⟨gb960, 2, none⟩) (Kd.R_far (p := ⟨gb960, 1, none⟩) (Kd.R_far (p := ⟨gb960, 0, none⟩) (Kd.R_types HO936.out BK960.out (by decide)) (fun _ hk => hk.2) (.int .i64 t953)) (fun _ hk => hk.2) (.slice Ao45 t954.length co45)) (fun _ hk => hk.2) (.slice Ao46 t957.length co46)) (fun _ h_ => h_.1))))) (Kd.R_lt (by (with_reducible repeat (first | apply Kd.R_alloc | apply Kd.R_drewN | apply Kd.R_drew)); exact (Kd.R_mono (Kd.R_far (p := ⟨gb960, 2, none⟩) (Kd.R_far (p := ⟨gb960, 1, none⟩) (Kd.R_far (p := ⟨gb960, 0, none⟩) (Kd.R_types HO939.out BK960.out (by decide)) (fun _ hk => hk.2) (.int .i64 t953)) (fun _ hk => hk.2) (.slice Ao45 t954.length co45)) (fun _ hk => hk.2) (.slice Ao46 t957.length co46)) (fun _ h_ => h_.1))))) (Kd.R_lt (by (with_reducible repeat (first | apply Kd.R_alloc | apply Kd.R_drewN | apply Kd.R_drew)); exact (Kd.R_mono (Kd.R_far (p := ⟨gb960, 2, none⟩) (Kd.R_far (p := ⟨gb960, 1, none⟩) (Kd.R_far (p := ⟨gb960, 0, none⟩) (Kd.R_types HO942.out BK960.out (by decide)) (fun _ hk => hk.2) (.int .i64 t953)) (fun _ hk => hk.2) (.slice Ao45 t954.length co45)) (fun _ hk => hk.2) (.slice Ao46 t957.length co46)) (fun _ h_ => h_.1))))) (Kd.R_lt (by (with_reducible repeat (first | apply Kd.R_alloc | apply Kd.R_drewN | apply Kd.R_drew)); exact (Kd.R_mono (Kd.R_far (p := ⟨gb960, 2, none⟩) (Kd.R_far (p := ⟨gb960, 1, none⟩) (Kd.R_far (p := ⟨gb960, 0, none⟩) (Kd.R_types HO949.out BK960.out (by decide)) (fun _ hk => hk.2) (.int .i64 t953)) (fun _ hk => hk.2) (.slice Ao45 t954.length co45)) (fun _ hk => hk.2) (.slice Ao46 t957.length co46)) (fun _ h_ => h_.1))))) (Kd.R_lt (by (with_reducible repeat (first | apply Kd.R_alloc | apply Kd.R_drewN | apply Kd.R_drew)); exact (Kd.R_mono (Kd.R_far (p := ⟨gb960, 2, none⟩) (Kd.R_far (p := ⟨gb960, 1, none⟩) (Kd.R_far (p := ⟨gb960, 0, none⟩) (Kd.R_types HO959.out BK960.out (by decide)) (fun _ hk => hk.2) (.int .i64 t953)) (fun _ hk => hk.2) (.slice Ao45 t954.length co45)) (fun _ hk => hk.2) (.slice Ao46 t957.length co46)) (fun _ h_ => h_.1))))) (below_size (qB))); have n9_ := Aside0.mk (blk_below (g := gb928) (o := .cells #[.int .i64 a0_0, .slice A0_1 l0_1.length c0_1, .slice A0_2 l0_2.length c0_2] 25 (0, 0)) (qF BK928.out) hb); have n10_ := Aside0.mk (blk_below (g := gb952) (o := .cells #[.int .i64 t943, .slice Ao37 t944.length co37, .slice Ao38 t947.length co38] 30 (0, 0)) (qF BK952.out) hb); have n11_ := Aside0.mk (blk_below (g := gb960) (o := .cells #[.int .i64 t953, .slice Ao45 t954.length co45, .slice Ao46 t957.length co46] 30 (0, 0)) (by (with_reducible repeat (first | refine blk_drewN ?_ _ | refine blk_drew ?_ | refine blk_alloc ?_ _)); refine blk_put (cs := #[.int .i64 t953, .slice Ao45 t954.length co45, .slice none 0 0]) ?_ 2 _ rfl; refine blk_put (cs := #[.int .i64 t953, .slice none 0 0, .slice none 0 0]) ?_ 1 _ rfl; refine blk_put (cs := #[.int .i64 0, .slice none 0 0, .slice none 0 0]) ?_ 0 _ rfl; exact qK BK960.out) hb); have n12_ := Aside0.mk (below_step (qB) hb); clear HO933; clear HO936; clear HO939; clear HO942; clear HO946; clear HO949; clear HO956; clear HO959; clear BK928; clear BK952; clear BK960; clear HB; have HO933 := n0_; have HO936 := n1_; have HO939 := n2_; have HO942 := n3_; have HO946 := n4_; have HO949 := n5_; have HO956 := n6_; have HO959 := n7_; have HO963 := n8_; have BK928 := n9_; have BK952 := n10_; have BK960 := n11_; have HB := n12_; clear n0_ n1_ n2_ n3_ n4_ n5_ n6_ n7_ n8_ n9_ n10_ n11_ n12_; (try clear hb); (try clear hb2); (try clear hk); (try clear hi); (try clear ho0)) | ((with_reducible refine gate_callee (f := 34) rfl ?_); refine goesL_ (some 50) rfl rfl Try.func34 (by kernel_rfl) rfl #[.slice A2 l2.length c2] rfl qG ?_; (with_reducible refine (laws_toIntS.calls k _ _ l2 t964 _ ?side1 ?side2 A19.out).mono ?_); (case side1 => exact qC (Kd.C_below HR2.out HB.out)); (case side2 => exact HC2.out); rintro e w48 ⟨v965, rfl, ho0, hb⟩; refine ⟨_, rfl, ?_⟩; have n0_ := Aside0.mk (Kd.R_below (qR HO933.out) hb); have n1_ := Aside0.mk (Kd.R_elder' (qR HO936.out) (Kd.R_base ho0) hb); have n2_ := Aside0.mk (Kd.R_elder' (qR HO939.out) (Kd.R_base ho0) hb); have n3_ := Aside0.mk (Kd.R_elder' (qR HO942.out) (Kd.R_base ho0) hb); have n4_ := Aside0.mk (Kd.R_below (qR HO946.out) hb); have n5_ := Aside0.mk (Kd.R_elder' (qR HO949.out) (Kd.R_base ho0) hb); have n6_ := Aside0.mk (Kd.R_below (qR HO956.out) hb); have n7_ := Aside0.mk (Kd.R_elder' (qR HO959.out) (Kd.R_base ho0) hb); have n8_ := Aside0.mk (Kd.R_elder' (qR HO963.out) (Kd.R_base ho0) hb); have n9_ := Aside0.mk (Kd.R_lower (Kd.R_new' (Kd.R_new' (Kd.R_new' (Kd.R_new' (Kd.R_new' (Kd.R_new' ho0 (Kd.R_lt (qR HO936.out))) (Kd.R_lt (qR HO939.out))) (Kd.R_lt (qR HO942.out))) (Kd.R_lt (qR HO949.out))) (Kd.R_lt (qR HO959.out))) (Kd.R_lt (qR HO963.out))) (below_size (qB))); have n10_ := Aside0.mk (blk_below (g := gb928) (o := .cells #[.int .i64 a0_0, .slice A0_1 l0_1.length c0_1, .slice A0_2 l0_2.length c0_2] 25 (0, 0)) (qK BK928.out) hb); have n11_ := Aside0.mk (blk_below (g := gb952) (o := .cells #[.int .i64 t943, .slice Ao37 t944.length co37, .slice Ao38 t947.length co38] 30 (0, 0)) (qK BK952.out) hb); have n12_ := Aside0.mk (blk_below (g := gb960) (o := .cells #[.int .i64 t953, .slice Ao45 t954.length co45, .slice Ao46 t957.length co46] 30 (0, 0)) (qK BK960.out) hb); have n13_ := Aside0.mk (below_step (qB) hb); clear HO933; clear HO936; clear HO939; clear HO942; clear HO946; clear HO949; clear HO956; clear HO959; clear HO963; clear BK928; clear BK952; clear BK960; clear HB; have HO933 := n0_; have HO936 := n1_; have HO939 := n2_; have HO942 := n3_; have HO946 := n4_; have HO949 := n5_; have HO956 := n6_; have HO959 := n7_; have HO963 := n8_; have HO966 := n9_; have BK928 := n10_; have BK952 := n11_; have BK960 := n12_; have HB := n13_; clear n0_ n1_ n2_ n3_ n4_ n5_ n6_ n7_ n8_ n9_ n10_ n11_ n12_ n13_; (try clear hb); (try clear hb2); (try clear hk); (try clear hi); (try clear ho0); have hcz49_0 : w48.cell? ⟨gb960, 0, none⟩ = some (.int .i64 t953) := (blk_cell BK960.out 0).trans rfl; have hcz49_1 : w48.cell? ⟨gb960, 1, none⟩ = some (.slice Ao45 t954.length co45) := (blk_cell BK960.out 1).trans rfl; have hcz49_2 : w48.cell? ⟨gb960, 2, none⟩ = some (.slice Ao46 t957.length co46) := (blk_cell BK960.out 2).trans rfl; have hfz49_0 := blk_frozen BK960.out 0; have hfz49_1 := blk_frozen BK960.out 1; have hfz49_2 := blk_frozen BK960.out 2; obtain ⟨Ao50, co50, eo50⟩ := Kd.R_slice HO963.out; subst eo50; obtain ⟨Ao51, co51, eo51⟩ := Kd.R_slice HO966.out; subst eo51) | ((with_reducible refine gate_callee (f := 39) rfl ?_); refine goesL_ (some 55) rfl rfl Try.func39 (by kernel_rfl) rfl #[.agg #[.int .i64 t953, .slice Ao45 t954.length co45, .slice Ao46 t957.length co46], .slice Ao50 t961.length co50, .slice Ao51 t964.length co51] rfl qG ?_; (with_reducible refine (impl_EqGates.calls k t953 _ _ t954 _ _ t957 _ _ t961 _ _ t964 t967 t968 t971 t974 t975 _ ?side1 ?side2 ?side3 ?side4 ?side5 ?side6 ?side7 ?side8 A20.out).mono ?_); (case side1 => repeat (first | exact (Kd.R_reads' HO956.out).2.2 | (with_reducible refine Kd.C_alloc ?_ _) | (with_reducible refine Kd.C_drewN ?_ _) | (with_reducible refine Kd.C_drew ?_))); (case side2 => exact (Kd.R_reads' HO956.out).2.1); (case side3 => repeat (first | exact (Kd.R_reads' HO959.out).2.2 | (with_reducible refine Kd.C_alloc ?_ _) | (with_reducible refine Kd.C_drewN ?_ _) | (with_reducible refine Kd.C_drew ?_))); (case side4 => exact (Kd.R_reads' HO959.out).2.1); (case side5 => repeat (first | exact (Kd.R_reads' HO963.out).2.2 | (with_reducible refine Kd.C_alloc ?_ _) | (with_reducible refine Kd.C_drewN ?_ _) | (with_reducible refine Kd.C_drew ?_))); (case side6 => exact (Kd.R_reads' HO963.out).2.1); (case side7 => repeat (first | exact (Kd.R_reads' HO966.out).2.2 | (with_reducible refine Kd.C_alloc ?_ _) | (with_reducible refine Kd.C_drewN ?_ _) | (with_reducible refine Kd.C_drew ?_))); (case side8 => exact (Kd.R_reads' HO966.out).2.1); rintro e w52 ⟨v969, v972, rfl, ho0, ho1, hb⟩; refine ⟨_, rfl, ?_⟩; have n0_ := Aside0.mk (Kd.R_elder' (qR HO933.out) (Kd.R_base ho0) hb); have n1_ := Aside0.mk (Kd.R_elder' (qR HO936.out) (Kd.R_base ho1) hb); have n2_ := Aside0.mk (Kd.R_elder' (qR HO939.out) (Kd.R_base ho1) hb); have n3_ := Aside0.mk (Kd.R_elder' (qR HO942.out) (Kd.R_base ho1) hb); have n4_ := Aside0.mk (Kd.R_elder' (qR HO946.out) (Kd.R_base ho0) hb); have n5_ := Aside0.mk (Kd.R_elder' (qR HO949.out) (Kd.R_base ho1) hb); have n6_ := Aside0.mk (Kd.R_elder' (qR HO956.out) (Kd.R_base ho0) hb); have n7_ := Aside0.mk (Kd.R_elder' (qR HO959.out) (Kd.R_base ho1) hb); have n8_ := Aside0.mk (Kd.R_elder' (qR HO963.out) (Kd.R_base ho1) hb); have n9_ := Aside0.mk (Kd.R_elder' (qR HO966.out) (Kd.R_base ho1) hb); have n10_ := Aside0.mk (Kd.R_lower (Kd.R_new' (Kd.R_new' (Kd.R_new' ho0 (Kd.R_lt (qR HO933.out))) (Kd.R_lt (qR HO946.out))) (Kd.R_lt (qR HO956.out))) (below_size (qB))); have n11_ := Aside0.mk (Kd.R_lower (Kd.R_new' (Kd.R_new' (Kd.R_new' (Kd.R_new' (Kd.R_new' (Kd.R_new' (Kd.R_new' ho1 (Kd.R_lt (qR HO936.out))) (Kd.R_lt (qR HO939.out))) (Kd.R_lt (qR HO942.out))) (Kd.R_lt (qR HO949.out))) (Kd.R_lt (qR HO959.out))) (Kd.R_lt (qR HO963.out))) (Kd.R_lt (qR HO966.out))) (below_size (qB))); have n12_ := Aside0.mk (blk_below (g := gb928) (o := .cells #[.int .i64 a0_0, .slice A0_1 l0_1.length c0_1, .slice A0_2 l0_2.length c0_2] 25 (0, 0)) (qK BK928.out) hb); have n13_ := Aside0.mk (blk_below (g := gb952) (o := .cells #[.int .i64 t943, .slice Ao37 t944.length co37, .slice Ao38 t947.length co38] 30 (0, 0)) (qK BK952.out) hb); have n14_ := Aside0.mk (blk_below (g := gb960) (o := .cells #[.int .i64 t953, .slice Ao45 t954.length co45, .slice Ao46 t957.length co46] 30 (0, 0)) (qK BK960.out) hb); have n15_ := Aside0.mk (below_step (qB) hb); clear HO933; clear HO936; clear HO939; clear HO942; clear HO946; clear HO949; clear HO956; clear HO959; clear HO963; clear HO966; clear BK928; clear BK952; clear BK960; clear HB; have HO933 := n0_; have HO936 := n1_; have HO939 := n2_; have HO942 := n3_; have HO946 := n4_; have HO949 := n5_; have HO956 := n6_; have HO959 := n7_; have HO963 := n8_; have HO966 := n9_; have HO970 := n10_; have HO973 := n11_; have BK928 := n12_; have BK952 := n13_; have BK960 := n14_; have HB := n15_; clear n0_ n1_ n2_ n3_ n4_ n5_ n6_ n7_ n8_ n9_ n10_ n11_ n12_ n13_ n14_ n15_; (try clear hb); (try clear hb2); (try clear hk); (try clear hi); (try clear ho0); (try clear ho1)) | ((with_reducible refine gate_dst (N := 14) rfl ?_); refine box_event ?hg (N := 14) ?hd (cs := #[.int .i64 0, .slice none 0 0, .slice none 0 0]) (t := 30) ?hr ?_; (case hd => rfl); (case hg => rfl); (case hr => first | (go_simp; done) | (go_simp; rfl)); intro gb976 hg w53 hbox hb; have n0_ := Aside0.mk (Kd.R_below (qR HO933.out) hb); have n1_ := Aside0.mk (Kd.R_below (qR HO936.out) hb); have n2_ := Aside0.mk (Kd.R_below (qR HO939.out) hb); have n3_ := Aside0.mk (Kd.R_below (qR HO942.out) hb); have n4_ := Aside0.mk (Kd.R_below (qR HO946.out) hb); have n5_ := Aside0.mk (Kd.R_below (qR HO949.out) hb); have n6_ := Aside0.mk (Kd.R_below (qR HO956.out) hb); have n7_ := Aside0.mk (Kd.R_below (qR HO959.out) hb); have n8_ := Aside0.mk (Kd.R_below (qR HO963.out) hb); have n9_ := Aside0.mk (Kd.R_below (qR HO966.out) hb); have n10_ := Aside0.mk (Kd.R_below (qR HO970.out) hb); have n11_ := Aside0.mk (Kd.R_below (qR HO973.out) hb); have n12_ := Aside0.mk (blk_below (g := gb928) (o := .cells #[.int .i64 a0_0, .slice A0_1 l0_1.length c0_1, .slice A0_2 l0_2.length c0_2] 25 (0, 0)) (qK BK928.out) hb); have n13_ := Aside0.mk (blk_below (g := gb952) (o := .cells #[.int .i64 t943, .slice Ao37 t944.length co37, .slice Ao38 t947.length co38] 30 (0, 0)) (qK BK952.out) hb); have n14_ := Aside0.mk (blk_below (g := gb960) (o := .cells #[.int .i64 t953, .slice Ao45 t954.length co45, .slice Ao46 t957.length co46] 30 (0, 0)) (qK BK960.out) hb); have n15_ := Aside0.mk (below_step (qB) hb); have n16_ := Aside0.mk (hbox); have n17_ := Aside0.mk ((by rw [hg]; exact (below_size (qB)) : w.heap.size ≤ gb976)); have n18_ := Aside0.mk ((by rw [hg]; exact (below_size (qB)) : w.heap.size ≤ gb976)); have n19_ := Aside0.mk ((by rw [hg]; exact Nat.ne_of_lt (blk_lt (g := gb928) (o := .cells #[.int .i64 a0_0, .slice A0_1 l0_1.length c0_1, .slice A0_2 l0_2.length c0_2] 25 (0, 0)) (qK BK928.out)) : gb928 ≠ gb976)); have n20_ := Aside0.mk ((by rw [hg]; exact Nat.ne_of_gt (blk_lt (g := gb928) (o := .cells #[.int .i64 a0_0, .slice A0_1 l0_1.length c0_1, .slice A0_2 l0_2.length c0_2] 25 (0, 0)) (qK BK928.out)) : gb976 ≠ gb928)); have n21_ := Aside0.mk ((by rw [hg]; exact Nat.ne_of_lt (blk_lt (g := gb952) (o := .cells #[.int .i64 t943, .slice Ao37 t944.length co37, .slice Ao38 t947.length co38] 30 (0, 0)) (qK BK952.out)) : gb952 ≠ gb976)); have n22_ := Aside0.mk ((by rw [hg]; exact Nat.ne_of_gt (blk_lt (g := gb952) (o := .cells #[.int .i64 t943, .slice Ao37 t944.length co37, .slice Ao38 t947.length co38] 30 (0, 0)) (qK BK952.out)) : gb976 ≠ gb952)); have n23_ := Aside0.mk ((by rw [hg]; exact Nat.ne_of_lt (blk_lt (g := gb960) (o := .cells #[.int .i64 t953, .slice Ao45 t954.length co45, .slice Ao46 t957.length co46] 30 (0, 0)) (qK BK960.out)) : gb960 ≠ gb976)); have n24_ := Aside0.mk ((by rw [hg]; exact Nat.ne_of_gt (blk_lt (g := gb960) (o := .cells #[.int .i64 t953, .slice Ao45 t954.length co45, .slice Ao46 t957.length co46] 30 (0, 0)) (qK BK960.out)) : gb976 ≠ gb960)); clear HO933; clear HO936; clear HO939; clear HO942; clear HO946; clear HO949; clear HO956; clear HO959; clear HO963; clear HO966; clear HO970; clear HO973; clear BK928; clear BK952; clear BK960; clear HB; have HO933 := n0_; have HO936 := n1_; have HO939 := n2_; have HO942 := n3_; have HO946 := n4_; have HO949 := n5_; have HO956 := n6_; have HO959 := n7_; have HO963 := n8_; have HO966 := n9_; have HO970 := n10_; have HO973 := n11_; have BK928 := n12_; have BK952 := n13_; have BK960 := n14_; have HB := n15_; have BK976 := n16_; have GW976 := n17_; have GE976 := n18_; have NB928_976 := n19_; have NB976_928 := n20_; have NB952_976 := n21_; have NB976_952 := n22_; have NB960_976 := n23_; have NB976_960 := n24_; clear n0_ n1_ n2_ n3_ n4_ n5_ n6_ n7_ n8_ n9_ n10_ n11_ n12_ n13_ n14_ n15_ n16_ n17_ n18_ n19_ n20_ n21_ n22_ n23_ n24_; clear hb hbox hg; have hnb54 := NB976_928.out; have hnc54 := NB928_976.out; have hnb55 := NB976_952.out; have hnc55 := NB952_976.out; have hnb56 := NB976_960.out; have hnc56 := NB960_976.out; have hcz57_0 : w53.cell? ⟨gb976, 0, none⟩ = some (.int .i64 0) := (blk_cell BK976.out 0).trans rfl; have hcz57_1 : w53.cell? ⟨gb976, 1, none⟩ = some (.slice none 0 0) := (blk_cell BK976.out 1).trans rfl; have hcz57_2 : w53.cell? ⟨gb976, 2, none⟩ = some (.slice none 0 0) := (blk_cell BK976.out 2).trans rfl; have hfz57_0 := blk_frozen BK976.out 0; have hfz57_1 := blk_frozen BK976.out 1; have hfz57_2 := blk_frozen BK976.out 2; obtain ⟨Ao58, co58, eo58⟩ := Kd.R_slice HO970.out; subst eo58; obtain ⟨Ao59, co59, eo59⟩ := Kd.R_slice HO973.out; subst eo59))
    (try simp only [Act.put, List.setIfInBounds_toArray, List.set_cons_zero, List.set_cons_succ])
    go_cut [72] (fun v72 wc => ∃ (kq : Nat) (x72_20 : Bool), v72 = .bool x72_20 ∧ Aside0 (laws_FnExactEqGates.j0 kq l1 l2 t950 t951 t961 t964 t974 t975 x72_20 a0_0 l0_1 l0_2 t943 t944 t947 t953 t954 t957 t967 t968 t971 = some true) ∧ Aside0 (kq ≤ k) ∧ Aside0 (Kd.R (Kd.int .i64) 3 wc w.heap.size (fun k_ => some k_ ≠ ((.slice Ao51 t964.length co51) : Value).ownBlock ∧ some k_ ≠ ((.slice Ao38 t947.length co38) : Value).ownBlock ∧ some k_ ≠ ((.slice Ao46 t957.length co46) : Value).ownBlock ∧ some k_ ≠ ((.slice Ao59 t971.length co59) : Value).ownBlock) (.slice Ao50 t961.length co50) t961) ∧ Aside0 (Kd.R (Kd.int .i64) 3 wc w.heap.size (fun k_ => some k_ ≠ ((.slice Ao50 t961.length co50) : Value).ownBlock ∧ some k_ ≠ ((.slice Ao38 t947.length co38) : Value).ownBlock ∧ some k_ ≠ ((.slice Ao46 t957.length co46) : Value).ownBlock ∧ some k_ ≠ ((.slice Ao59 t971.length co59) : Value).ownBlock) (.slice Ao51 t964.length co51) t964) ∧ Aside0 (Kd.R k59 59 wc w.heap.size (fun k_ => some k_ ≠ ((.slice Ao45 t954.length co45) : Value).ownBlock ∧ some k_ ≠ ((.slice Ao58 t968.length co58) : Value).ownBlock) (.slice Ao37 t944.length co37) t944) ∧ Aside0 (Kd.R (Kd.int .i64) 3 wc w.heap.size (fun k_ => some k_ ≠ ((.slice Ao50 t961.length co50) : Value).ownBlock ∧ some k_ ≠ ((.slice Ao51 t964.length co51) : Value).ownBlock ∧ some k_ ≠ ((.slice Ao46 t957.length co46) : Value).ownBlock ∧ some k_ ≠ ((.slice Ao59 t971.length co59) : Value).ownBlock) (.slice Ao38 t947.length co38) t947) ∧ Aside0 (Kd.R k59 59 wc w.heap.size (fun k_ => some k_ ≠ ((.slice Ao37 t944.length co37) : Value).ownBlock ∧ some k_ ≠ ((.slice Ao58 t968.length co58) : Value).ownBlock) (.slice Ao45 t954.length co45) t954) ∧ Aside0 (Kd.R (Kd.int .i64) 3 wc w.heap.size (fun k_ => some k_ ≠ ((.slice Ao50 t961.length co50) : Value).ownBlock ∧ some k_ ≠ ((.slice Ao51 t964.length co51) : Value).ownBlock ∧ some k_ ≠ ((.slice Ao38 t947.length co38) : Value).ownBlock ∧ some k_ ≠ ((.slice Ao59 t971.length co59) : Value).ownBlock) (.slice Ao46 t957.length co46) t957) ∧ Aside0 (Kd.R k59 59 wc w.heap.size (fun k_ => some k_ ≠ ((.slice Ao37 t944.length co37) : Value).ownBlock ∧ some k_ ≠ ((.slice Ao45 t954.length co45) : Value).ownBlock) (.slice Ao58 t968.length co58) t968) ∧ Aside0 (Kd.R (Kd.int .i64) 3 wc w.heap.size (fun k_ => some k_ ≠ ((.slice Ao50 t961.length co50) : Value).ownBlock ∧ some k_ ≠ ((.slice Ao51 t964.length co51) : Value).ownBlock ∧ some k_ ≠ ((.slice Ao38 t947.length co38) : Value).ownBlock ∧ some k_ ≠ ((.slice Ao46 t957.length co46) : Value).ownBlock) (.slice Ao59 t971.length co59) t971) ∧ Aside0 (wc.heap[gb928]? = some (.cells #[.int .i64 a0_0, (.slice A0_1 l0_1.length c0_1), (.slice A0_2 l0_2.length c0_2)] 25 (0, 0))) ∧ Aside0 (wc.heap[gb952]? = some (.cells #[.int .i64 t943, (.slice Ao37 t944.length co37), (.slice Ao38 t947.length co38)] 30 (0, 0))) ∧ Aside0 (wc.heap[gb960]? = some (.cells #[.int .i64 t953, (.slice Ao45 t954.length co45), (.slice Ao46 t957.length co46)] 30 (0, 0))) ∧ Aside0 (wc.heap[gb976]? = some (.cells #[.int .i64 t967, (.slice Ao58 t968.length co58), (.slice Ao59 t971.length co59)] 30 (0, 0))) ∧ Aside0 (Below w.heap.size w wc))
    case first =>
     have H := HC21.out
     clear HC21
     replace H := Option.bind_eq_some_iff.mp H
     obtain ⟨t977, A600, H⟩ := H
     replace H : (if t977 = true then (if t974 = t950 then (laws_FnExactEqGates.j0 k l1 l2 t950 t951 t961 t964 t974 t975 (t975 != t951) a0_0 l0_1 l0_2 t943 t944 t947 t953 t954 t957 t967 t968 t971) else (laws_FnExactEqGates.j0 k l1 l2 t950 t951 t961 t964 t974 t975 true a0_0 l0_1 l0_2 t943 t944 t947 t953 t954 t957 t967 t968 t971)) else (laws_FnExactEqGates.j0 k l1 l2 t950 t951 t961 t964 t974 t975 true a0_0 l0_1 l0_2 t943 t944 t947 t953 t954 t957 t967 t968 t971)) = some true := H
     have A60 := Aside0.mk A600
     clear A600
     by_cases c61 : t977 = true
     ·subst c61
      have H1 : (if t974 = t950 then (laws_FnExactEqGates.j0 k l1 l2 t950 t951 t961 t964 t974 t975 (t975 != t951) a0_0 l0_1 l0_2 t943 t944 t947 t953 t954 t957 t967 t968 t971) else (laws_FnExactEqGates.j0 k l1 l2 t950 t951 t961 t964 t974 t975 true a0_0 l0_1 l0_2 t943 t944 t947 t953 t954 t957 t967 t968 t971)) = some true := by rw [if_pos rfl] at H; exact H
      clear H
      have H := H1
      clear H1
      by_cases c62 : t974 = t950
      ·rw [if_pos c62] at H
       have c62b0 : (t974 == t950) = true := beq_iff_eq.mpr c62
       have c62b1 : (t974 != t950) = false := bne_eq_false_iff_eq.mpr c62
       clear c62
       (first | rw [c62b0] | (simp only [i64_w, i32_w]; rw [c62b0]) | skip)
       have H' := Aside0.mk H
       clear H
       have hnb63 := NB976_928.out
       have hnc63 := NB928_976.out
       have hnb64 := NB976_952.out
       have hnc64 := NB952_976.out
       have hnb65 := NB976_960.out
       have hnc65 := NB960_976.out
       have hcz66_0 : w53.cell? ⟨gb976, 0, none⟩ = some (.int .i64 0) := (blk_cell BK976.out 0).trans rfl
       have hcz66_1 : w53.cell? ⟨gb976, 1, none⟩ = some (.slice none 0 0) := (blk_cell BK976.out 1).trans rfl
       have hcz66_2 : w53.cell? ⟨gb976, 2, none⟩ = some (.slice none 0 0) := (blk_cell BK976.out 2).trans rfl
       have hfz66_0 := blk_frozen BK976.out 0
       have hfz66_1 := blk_frozen BK976.out 1
       have hfz66_2 := blk_frozen BK976.out 2
       have hnb67 := NB952_928.out
       have hnc67 := NB928_952.out
       have hnb68 := NB952_960.out
       have hnc68 := NB960_952.out
       have hcz69_0 : w53.cell? ⟨gb952, 0, none⟩ = some (.int .i64 t943) := (blk_cell BK952.out 0).trans rfl
       have hcz69_1 : w53.cell? ⟨gb952, 1, none⟩ = some (.slice Ao37 t944.length co37) := (blk_cell BK952.out 1).trans rfl
       have hcz69_2 : w53.cell? ⟨gb952, 2, none⟩ = some (.slice Ao38 t947.length co38) := (blk_cell BK952.out 2).trans rfl
       have hfz69_0 := blk_frozen BK952.out 0
       have hfz69_1 := blk_frozen BK952.out 1
       have hfz69_2 := blk_frozen BK952.out 2
       go_wp2_with (first | ((with_reducible refine gate_callee (f := 15) rfl ?_); refine goesL_ (some 61) rfl rfl Try.func15 (by kernel_rfl) rfl #[.agg #[.int .i64 t967, .slice Ao58 t968.length co58, .slice Ao59 t971.length co59], .agg #[.int .i64 t943, .slice Ao37 t944.length co37, .slice Ao38 t947.length co38]] rfl qG ?_; (with_reducible refine (laws_eqCircuit.calls k t967 _ _ t968 _ _ t971 t943 _ _ t944 _ _ t947 true _ ?side1 ?side2 ?side3 ?side4 ?side5 ?side6 ?side7 ?side8 A60.out).mono ?_); (case side1 => refine (Kd.R_reads' (e := 59) (base := w.heap.size) (ok := fun k_ => (((True ∧ some k_ ≠ (.slice Ao29 t931.length co29 : Value).ownBlock) ∧ some k_ ≠ (.slice Ao37 t944.length co37 : Value).ownBlock) ∧ some k_ ≠ (.slice Ao45 t954.length co45 : Value).ownBlock)) (n := t968.length) (c := co58) ?_).2.2; exact (by (with_reducible repeat (first | apply Kd.R_alloc | apply Kd.R_drewN | apply Kd.R_drew)); exact (Kd.R_mono (Kd.R_far (p := ⟨gb976, 2, none⟩) (Kd.R_far (p := ⟨gb976, 1, none⟩) (Kd.R_far (p := ⟨gb976, 0, none⟩) (Kd.R_types HO970.out BK976.out (by decide)) (fun _ hk => hk.2) (.int .i64 t967)) (fun _ hk => hk.2) (.slice Ao58 t968.length co58)) (fun _ hk => hk.2) (.slice Ao59 t971.length co59)) (fun _ h_ => h_.1)))); (case side2 => exact (Kd.R_reads' HO970.out).2.1); (case side3 => refine (Kd.R_reads' (e := 3) (base := w.heap.size) (ok := fun k_ => (((((((True ∧ some k_ ≠ (.slice Ao30 t934.length co30 : Value).ownBlock) ∧ some k_ ≠ (.slice Ao31 t937.length co31 : Value).ownBlock) ∧ some k_ ≠ (.slice Ao32 t940.length co32 : Value).ownBlock) ∧ some k_ ≠ (.slice Ao38 t947.length co38 : Value).ownBlock) ∧ some k_ ≠ (.slice Ao46 t957.length co46 : Value).ownBlock) ∧ some k_ ≠ (.slice Ao50 t961.length co50 : Value).ownBlock) ∧ some k_ ≠ (.slice Ao51 t964.length co51 : Value).ownBlock)) (n := t971.length) (c := co59) ?_).2.2; exact (by (with_reducible repeat (first | apply Kd.R_alloc | apply Kd.R_drewN | apply Kd.R_drew)); exact (Kd.R_mono (Kd.R_far (p := ⟨gb976, 2, none⟩) (Kd.R_far (p := ⟨gb976, 1, none⟩) (Kd.R_far (p := ⟨gb976, 0, none⟩) (Kd.R_types HO973.out BK976.out (by decide)) (fun _ hk => hk.2) (.int .i64 t967)) (fun _ hk => hk.2) (.slice Ao58 t968.length co58)) (fun _ hk => hk.2) (.slice Ao59 t971.length co59)) (fun _ h_ => h_.1)))); (case side4 => exact (Kd.R_reads' HO973.out).2.1); (case side5 => refine (Kd.R_reads' (e := 59) (base := w.heap.size) (ok := fun k_ => (((True ∧ some k_ ≠ (.slice Ao29 t931.length co29 : Value).ownBlock) ∧ some k_ ≠ (.slice Ao45 t954.length co45 : Value).ownBlock) ∧ some k_ ≠ (.slice Ao58 t968.length co58 : Value).ownBlock)) (n := t944.length) (c := co37) ?_).2.2; exact (by (with_reducible repeat (first | apply Kd.R_alloc | apply Kd.R_drewN | apply Kd.R_drew)); exact (Kd.R_mono (Kd.R_far (p := ⟨gb976, 2, none⟩) (Kd.R_far (p := ⟨gb976, 1, none⟩) (Kd.R_far (p := ⟨gb976, 0, none⟩) (Kd.R_types HO946.out BK976.out (by decide)) (fun _ hk => hk.2) (.int .i64 t967)) (fun _ hk => hk.2) (.slice Ao58 t968.length co58)) (fun _ hk => hk.2) (.slice Ao59 t971.length co59)) (fun _ h_ => h_.1)))); (case side6 => exact (Kd.R_reads' HO946.out).2.1); (case side7 => refine (Kd.R_reads' (e := 3) (base := w.heap.size) (ok := fun k_ => (((((((True ∧ some k_ ≠ (.slice Ao30 t934.length co30 : Value).ownBlock) ∧ some k_ ≠ (.slice Ao31 t937.length co31 : Value).ownBlock) ∧ some k_ ≠ (.slice Ao32 t940.length co32 : Value).ownBlock) ∧ some k_ ≠ (.slice Ao46 t957.length co46 : Value).ownBlock) ∧ some k_ ≠ (.slice Ao50 t961.length co50 : Value).ownBlock) ∧ some k_ ≠ (.slice Ao51 t964.length co51 : Value).ownBlock) ∧ some k_ ≠ (.slice Ao59 t971.length co59 : Value).ownBlock)) (n := t947.length) (c := co38) ?_).2.2; exact (by (with_reducible repeat (first | apply Kd.R_alloc | apply Kd.R_drewN | apply Kd.R_drew)); exact (Kd.R_mono (Kd.R_far (p := ⟨gb976, 2, none⟩) (Kd.R_far (p := ⟨gb976, 1, none⟩) (Kd.R_far (p := ⟨gb976, 0, none⟩) (Kd.R_types HO949.out BK976.out (by decide)) (fun _ hk => hk.2) (.int .i64 t967)) (fun _ hk => hk.2) (.slice Ao58 t968.length co58)) (fun _ hk => hk.2) (.slice Ao59 t971.length co59)) (fun _ h_ => h_.1)))); (case side8 => exact (Kd.R_reads' HO949.out).2.1); rintro e w70 ⟨rfl, hb⟩; refine ⟨_, rfl, ?_⟩; have n0_ := Aside0.mk (Kd.R_below (by (with_reducible repeat (first | apply Kd.R_alloc | apply Kd.R_drewN | apply Kd.R_drew)); exact (Kd.R_mono (Kd.R_far (p := ⟨gb976, 2, none⟩) (Kd.R_far (p := ⟨gb976, 1, none⟩) (Kd.R_far (p := ⟨gb976, 0, none⟩) (Kd.R_types HO933.out BK976.out (by decide)) (fun _ hk => hk.2) (.int .i64 t967)) (fun _ hk => hk.2) (.slice Ao58 t968.length co58)) (fun _ hk => hk.2) (.slice Ao59 t971.length co59)) (fun _ h_ => h_.1))) hb); have n1_ := Aside0.mk (Kd.R_below (by (with_reducible repeat (first | apply Kd.R_alloc | apply Kd.R_drewN | apply Kd.R_drew)); exact (Kd.R_mono (Kd.R_far (p := ⟨gb976, 2, none⟩) (Kd.R_far (p := ⟨gb976, 1, none⟩) (Kd.R_far (p := ⟨gb976, 0, none⟩) (Kd.R_types HO936.out BK976.out (by decide)) (fun _ hk => hk.2) (.int .i64 t967)) (fun _ hk => hk.2) (.slice Ao58 t968.length co58)) (fun _ hk => hk.2) (.slice Ao59 t971.length co59)) (fun _ h_ => h_.1))) hb); have n2_ := Aside0.mk (Kd.R_below (by (with_reducible repeat (first | apply Kd.R_alloc | apply Kd.R_drewN | apply Kd.R_drew)); exact (Kd.R_mono (Kd.R_far (p := ⟨gb976, 2, none⟩) (Kd.R_far (p := ⟨gb976, 1, none⟩) (Kd.R_far (p := ⟨gb976, 0, none⟩) (Kd.R_types HO939.out BK976.out (by decide)) (fun _ hk => hk.2) (.int .i64 t967)) (fun _ hk => hk.2) (.slice Ao58 t968.length co58)) (fun _ hk => hk.2) (.slice Ao59 t971.length co59)) (fun _ h_ => h_.1))) hb); have n3_ := Aside0.mk (Kd.R_below (by (with_reducible repeat (first | apply Kd.R_alloc | apply Kd.R_drewN | apply Kd.R_drew)); exact (Kd.R_mono (Kd.R_far (p := ⟨gb976, 2, none⟩) (Kd.R_far (p := ⟨gb976, 1, none⟩) (Kd.R_far (p := ⟨gb976, 0, none⟩) (Kd.R_types HO942.out BK976.out (by decide)) (fun _ hk => hk.2) (.int .i64 t967)) (fun _ hk => hk.2) (.slice Ao58 t968.length co58)) (fun _ hk => hk.2) (.slice Ao59 t971.length co59)) (fun _ h_ => h_.1))) hb); have n4_ := Aside0.mk (Kd.R_below (by (with_reducible repeat (first | apply Kd.R_alloc | apply Kd.R_drewN | apply Kd.R_drew)); exact (Kd.R_mono (Kd.R_far (p := ⟨gb976, 2, none⟩) (Kd.R_far (p := ⟨gb976, 1, none⟩) (Kd.R_far (p := ⟨gb976, 0, none⟩) (Kd.R_types HO946.out BK976.out (by decide)) (fun _ hk => hk.2) (.int .i64 t967)) (fun _ hk => hk.2) (.slice Ao58 t968.length co58)) (fun _ hk => hk.2) (.slice Ao59 t971.length co59)) (fun _ h_ => h_.1))) hb); have n5_ := Aside0.mk (Kd.R_below (by (with_reducible repeat (first | apply Kd.R_alloc | apply Kd.R_drewN | apply Kd.R_drew)); exact (Kd.R_mono (Kd.R_far (p := ⟨gb976, 2, none⟩) (Kd.R_far (p := ⟨gb976, 1, none⟩) (Kd.R_far (p := ⟨gb976, 0, none⟩) (Kd.R_types HO949.out BK976.out (by decide)) (fun _ hk => hk.2) (.int .i64 t967)) (fun _ hk => hk.2) (.slice Ao58 t968.length co58)) (fun _ hk => hk.2) (.slice Ao59 t971.length co59)) (fun _ h_ => h_.1))) hb); have n6_ := Aside0.mk (Kd.R_below (by (with_reducible repeat (first | apply Kd.R_alloc | apply Kd.R_drewN | apply Kd.R_drew)); exact (Kd.R_mono (Kd.R_far (p := ⟨gb976, 2, none⟩) (Kd.R_far (p := ⟨gb976, 1, none⟩) (Kd.R_far (p := ⟨gb976, 0, none⟩) (Kd.R_types HO956.out BK976.out (by decide)) (fun _ hk => hk.2) (.int .i64 t967)) (fun _ hk => hk.2) (.slice Ao58 t968.length co58)) (fun _ hk => hk.2) (.slice Ao59 t971.length co59)) (fun _ h_ => h_.1))) hb); have n7_ := Aside0.mk (Kd.R_below (by (with_reducible repeat (first | apply Kd.R_alloc | apply Kd.R_drewN | apply Kd.R_drew)); exact (Kd.R_mono (Kd.R_far (p := ⟨gb976, 2, none⟩) (Kd.R_far (p := ⟨gb976, 1, none⟩) (Kd.R_far (p := ⟨gb976, 0, none⟩) (Kd.R_types HO959.out BK976.out (by decide)) (fun _ hk => hk.2) (.int .i64 t967)) (fun _ hk => hk.2) (.slice Ao58 t968.length co58)) (fun _ hk => hk.2) (.slice Ao59 t971.length co59)) (fun _ h_ => h_.1))) hb); have n8_ := Aside0.mk (Kd.R_below (by (with_reducible repeat (first | apply Kd.R_alloc | apply Kd.R_drewN | apply Kd.R_drew)); exact (Kd.R_mono (Kd.R_far (p := ⟨gb976, 2, none⟩) (Kd.R_far (p := ⟨gb976, 1, none⟩) (Kd.R_far (p := ⟨gb976, 0, none⟩) (Kd.R_types HO963.out BK976.out (by decide)) (fun _ hk => hk.2) (.int .i64 t967)) (fun _ hk => hk.2) (.slice Ao58 t968.length co58)) (fun _ hk => hk.2) (.slice Ao59 t971.length co59)) (fun _ h_ => h_.1))) hb); have n9_ := Aside0.mk (Kd.R_below (by (with_reducible repeat (first | apply Kd.R_alloc | apply Kd.R_drewN | apply Kd.R_drew)); exact (Kd.R_mono (Kd.R_far (p := ⟨gb976, 2, none⟩) (Kd.R_far (p := ⟨gb976, 1, none⟩) (Kd.R_far (p := ⟨gb976, 0, none⟩) (Kd.R_types HO966.out BK976.out (by decide)) (fun _ hk => hk.2) (.int .i64 t967)) (fun _ hk => hk.2) (.slice Ao58 t968.length co58)) (fun _ hk => hk.2) (.slice Ao59 t971.length co59)) (fun _ h_ => h_.1))) hb); have n10_ := Aside0.mk (Kd.R_below (by (with_reducible repeat (first | apply Kd.R_alloc | apply Kd.R_drewN | apply Kd.R_drew)); exact (Kd.R_mono (Kd.R_far (p := ⟨gb976, 2, none⟩) (Kd.R_far (p := ⟨gb976, 1, none⟩) (Kd.R_far (p := ⟨gb976, 0, none⟩) (Kd.R_types HO970.out BK976.out (by decide)) (fun _ hk => hk.2) (.int .i64 t967)) (fun _ hk => hk.2) (.slice Ao58 t968.length co58)) (fun _ hk => hk.2) (.slice Ao59 t971.length co59)) (fun _ h_ => h_.1))) hb); have n11_ := Aside0.mk (Kd.R_below (by (with_reducible repeat (first | apply Kd.R_alloc | apply Kd.R_drewN | apply Kd.R_drew)); exact (Kd.R_mono (Kd.R_far (p := ⟨gb976, 2, none⟩) (Kd.R_far (p := ⟨gb976, 1, none⟩) (Kd.R_far (p := ⟨gb976, 0, none⟩) (Kd.R_types HO973.out BK976.out (by decide)) (fun _ hk => hk.2) (.int .i64 t967)) (fun _ hk => hk.2) (.slice Ao58 t968.length co58)) (fun _ hk => hk.2) (.slice Ao59 t971.length co59)) (fun _ h_ => h_.1))) hb); have n12_ := Aside0.mk (blk_below (g := gb928) (o := .cells #[.int .i64 a0_0, .slice A0_1 l0_1.length c0_1, .slice A0_2 l0_2.length c0_2] 25 (0, 0)) (qF BK928.out) hb); have n13_ := Aside0.mk (blk_below (g := gb952) (o := .cells #[.int .i64 t943, .slice Ao37 t944.length co37, .slice Ao38 t947.length co38] 30 (0, 0)) (qF BK952.out) hb); have n14_ := Aside0.mk (blk_below (g := gb960) (o := .cells #[.int .i64 t953, .slice Ao45 t954.length co45, .slice Ao46 t957.length co46] 30 (0, 0)) (qF BK960.out) hb); have n15_ := Aside0.mk (blk_below (g := gb976) (o := .cells #[.int .i64 t967, .slice Ao58 t968.length co58, .slice Ao59 t971.length co59] 30 (0, 0)) (by (with_reducible repeat (first | refine blk_drewN ?_ _ | refine blk_drew ?_ | refine blk_alloc ?_ _)); refine blk_put (cs := #[.int .i64 t967, .slice Ao58 t968.length co58, .slice none 0 0]) ?_ 2 _ rfl; refine blk_put (cs := #[.int .i64 t967, .slice none 0 0, .slice none 0 0]) ?_ 1 _ rfl; refine blk_put (cs := #[.int .i64 0, .slice none 0 0, .slice none 0 0]) ?_ 0 _ rfl; exact qK BK976.out) hb); have n16_ := Aside0.mk (below_step (qB) hb); clear HO933; clear HO936; clear HO939; clear HO942; clear HO946; clear HO949; clear HO956; clear HO959; clear HO963; clear HO966; clear HO970; clear HO973; clear BK928; clear BK952; clear BK960; clear BK976; clear HB; have HO933 := n0_; have HO936 := n1_; have HO939 := n2_; have HO942 := n3_; have HO946 := n4_; have HO949 := n5_; have HO956 := n6_; have HO959 := n7_; have HO963 := n8_; have HO966 := n9_; have HO970 := n10_; have HO973 := n11_; have BK928 := n12_; have BK952 := n13_; have BK960 := n14_; have BK976 := n15_; have HB := n16_; clear n0_ n1_ n2_ n3_ n4_ n5_ n6_ n7_ n8_ n9_ n10_ n11_ n12_ n13_ n14_ n15_ n16_; (try clear hb); (try clear hb2); (try clear hk); (try clear hi)))
       go_meet
       case rel => exact ⟨_, ((t975 != t951)), qS, H', ⟨by first | omega | exact Nat.le_refl _⟩, ⟨by (with_reducible repeat (first | apply Kd.R_alloc | apply Kd.R_drewN | apply Kd.R_drew)); exact Kd.R_mono HO963.out (fun _ hk => ⟨hk.1.2, ⟨hk.1.1.1.2, ⟨hk.1.1.2, hk.2⟩⟩⟩)⟩, ⟨by (with_reducible repeat (first | apply Kd.R_alloc | apply Kd.R_drewN | apply Kd.R_drew)); exact Kd.R_mono HO966.out (fun _ hk => ⟨hk.1.2, ⟨hk.1.1.1.2, ⟨hk.1.1.2, hk.2⟩⟩⟩)⟩, ⟨by (with_reducible repeat (first | apply Kd.R_alloc | apply Kd.R_drewN | apply Kd.R_drew)); exact Kd.R_mono HO946.out (fun _ hk => ⟨hk.1.2, hk.2⟩)⟩, ⟨by (with_reducible repeat (first | apply Kd.R_alloc | apply Kd.R_drewN | apply Kd.R_drew)); exact Kd.R_mono HO949.out (fun _ hk => ⟨hk.1.1.2, ⟨hk.1.2, ⟨hk.1.1.1.2, hk.2⟩⟩⟩)⟩, ⟨by (with_reducible repeat (first | apply Kd.R_alloc | apply Kd.R_drewN | apply Kd.R_drew)); exact Kd.R_mono HO956.out (fun _ hk => ⟨hk.1.2, hk.2⟩)⟩, ⟨by (with_reducible repeat (first | apply Kd.R_alloc | apply Kd.R_drewN | apply Kd.R_drew)); exact Kd.R_mono HO959.out (fun _ hk => ⟨hk.1.1.2, ⟨hk.1.2, ⟨hk.1.1.1.2, hk.2⟩⟩⟩)⟩, ⟨by (with_reducible repeat (first | apply Kd.R_alloc | apply Kd.R_drewN | apply Kd.R_drew)); exact Kd.R_mono HO970.out (fun _ hk => ⟨hk.1.2, hk.2⟩)⟩, ⟨by (with_reducible repeat (first | apply Kd.R_alloc | apply Kd.R_drewN | apply Kd.R_drew)); exact Kd.R_mono HO973.out (fun _ hk => ⟨hk.1.2, ⟨hk.2, ⟨hk.1.1.1.2, hk.1.1.2⟩⟩⟩)⟩, ⟨by exact qK BK928.out⟩, ⟨by exact qK BK952.out⟩, ⟨by exact qK BK960.out⟩, ⟨by exact qK BK976.out⟩, ⟨qB⟩⟩
      ·rw [if_neg c62] at H
       exact absurd H (by cases k <;> simp [laws_FnExactEqGates.j0])
     ·replace c61 := Bool.eq_false_iff.mpr c61
      subst c61
      have H1 : (laws_FnExactEqGates.j0 k l1 l2 t950 t951 t961 t964 t974 t975 true a0_0 l0_1 l0_2 t943 t944 t947 t953 t954 t957 t967 t968 t971) = some true := by rw [if_neg (show ¬ (false = true) by decide)] at H; exact H
      exact absurd H1 (by cases k <;> simp [laws_FnExactEqGates.j0])
    case rest =>
     clear HC21
     try clear c1
     try clear c2
     try clear p2
     try clear c3
     try clear c4
     try clear c4b0
     try clear c4b1
     try clear c5
     try clear c6
     try clear c6b0
     try clear c6b1
     try clear c7
     try clear c8
     try clear c9
     try clear c9b0
     try clear c10
     try clear c11
     try clear c13
     try clear c15
     try clear c34
     try clear c35
     try clear c38
     try clear c39
     try clear c42
     try clear c43
     try clear c54
     try clear c55
     try clear c56
     try clear c61
     try clear c62
     try clear c62b0
     try clear c62b1
     try clear c63
     try clear c64
     try clear c65
     try clear c67
     try clear c68
     try clear c71
     try clear c72
     try clear c73
     try clear c75
     try clear c76
     try clear c79
     try clear c80
     try clear c81
     try clear c83
     try clear c84
     try clear hcz11_0
     try clear hcz11_1
     try clear hcz11_2
     try clear hcz23_0
     try clear hcz23_1
     try clear hcz23_2
     try clear hcz25_0
     try clear hcz25_1
     try clear hcz25_2
     try clear hcz36_0
     try clear hcz36_1
     try clear hcz36_2
     try clear hcz39_0
     try clear hcz39_1
     try clear hcz39_2
     try clear hcz44_0
     try clear hcz44_1
     try clear hcz44_2
     try clear hcz49_0
     try clear hcz49_1
     try clear hcz49_2
     try clear hcz57_0
     try clear hcz57_1
     try clear hcz57_2
     try clear hcz66_0
     try clear hcz66_1
     try clear hcz66_2
     try clear hcz69_0
     try clear hcz69_1
     try clear hcz69_2
     try clear hcz74_0
     try clear hcz74_1
     try clear hcz74_2
     try clear hcz77_0
     try clear hcz77_1
     try clear hcz77_2
     try clear hcz82_0
     try clear hcz82_1
     try clear hcz82_2
     try clear hcz85_0
     try clear hcz85_1
     try clear hcz85_2
     try clear hfz11_0
     try clear hfz11_1
     try clear hfz11_2
     try clear hfz23_0
     try clear hfz23_1
     try clear hfz23_2
     try clear hfz25_0
     try clear hfz25_1
     try clear hfz25_2
     try clear hfz36_0
     try clear hfz36_1
     try clear hfz36_2
     try clear hfz39_0
     try clear hfz39_1
     try clear hfz39_2
     try clear hfz44_0
     try clear hfz44_1
     try clear hfz44_2
     try clear hfz49_0
     try clear hfz49_1
     try clear hfz49_2
     try clear hfz57_0
     try clear hfz57_1
     try clear hfz57_2
     try clear hfz66_0
     try clear hfz66_1
     try clear hfz66_2
     try clear hfz69_0
     try clear hfz69_1
     try clear hfz69_2
     try clear hfz74_0
     try clear hfz74_1
     try clear hfz74_2
     try clear hfz77_0
     try clear hfz77_1
     try clear hfz77_2
     try clear hfz82_0
     try clear hfz82_1
     try clear hfz82_2
     try clear hfz85_0
     try clear hfz85_1
     try clear hfz85_2
     obtain ⟨kq, x72_20, rfl, HA, HJ20, HO_12, HO_13, HO_953001, HO_953002, HO_961001, HO_961002, HO_977001, HO_977002, BK928, BK952, BK960, BK976, HB⟩ := hcut
     cases kq with
     | zero => exact absurd HA.out (by simp [laws_FnExactEqGates.j0])
     | succ kj20 =>
      have H := HA.out
      clear HA
      simp only [laws_FnExactEqGates.j0] at H
      by_cases c87 : x72_20 = true
      ·subst c87
       have H1 : (some false) = some true := by rw [if_pos rfl] at H; exact H
       exact absurd H1 (by simp)
      ·replace c87 := Bool.eq_false_iff.mpr c87
       subst c87
       have H1 : ((laws_toCircuit.f kj20 a0_0 l0_1 l0_2).bind fun bt978 => ((laws_eqCircuit.f kj20 t953 t954 t957 bt978.1 bt978.2.1 bt978.2.2).bind fun t985 => (if t985 = true then ((laws_toIntS.f kj20 l1).bind fun t986 => ((laws_eqIntS.f kj20 t961 t986).bind fun t989 => (if t989 = true then ((laws_toIntS.f kj20 l2).bind fun t990 => ((laws_eqIntS.f kj20 t964 t990).bind fun t993 => (if t993 = true then ((laws_markCircuit.f kj20 t953 t954 t957 1).bind fun bt994 => ((laws_markIntS.f kj20 t961 bt994.1).bind fun bt997 => ((laws_markIntS.f kj20 t964 bt997.1).bind fun bt999 => (if bt999.1 < 0 then (laws_FnExactEqGates.j1 kj20 l1 l2 t950 t951 true a0_0 l0_1 l0_2 t943 t944 t947 t967 t968 t971) else ((laws_eqCircuit.f kj20 t967 t968 t971 t943 t944 t947).bind fun t1001 => (if t1001 = true then (if t974 = t950 then (laws_FnExactEqGates.j1 kj20 l1 l2 t950 t951 (t975 != t951) a0_0 l0_1 l0_2 t943 t944 t947 t967 t968 t971) else (laws_FnExactEqGates.j1 kj20 l1 l2 t950 t951 true a0_0 l0_1 l0_2 t943 t944 t947 t967 t968 t971)) else (laws_FnExactEqGates.j1 kj20 l1 l2 t950 t951 true a0_0 l0_1 l0_2 t943 t944 t947 t967 t968 t971))))))) else (some false)))) else (some false)))) else (some false)))) = some true := by rw [if_neg (show ¬ (false = true) by decide)] at H; exact H
       clear H
       have H := H1
       clear H1
       replace H := Option.bind_eq_some_iff.mp H
       obtain ⟨⟨t978, t979, t982⟩, A880, H⟩ := H
       replace H : ((laws_eqCircuit.f kj20 t953 t954 t957 t978 t979 t982).bind fun t985 => (if t985 = true then ((laws_toIntS.f kj20 l1).bind fun t986 => ((laws_eqIntS.f kj20 t961 t986).bind fun t989 => (if t989 = true then ((laws_toIntS.f kj20 l2).bind fun t990 => ((laws_eqIntS.f kj20 t964 t990).bind fun t993 => (if t993 = true then ((laws_markCircuit.f kj20 t953 t954 t957 1).bind fun bt994 => ((laws_markIntS.f kj20 t961 bt994.1).bind fun bt997 => ((laws_markIntS.f kj20 t964 bt997.1).bind fun bt999 => (if bt999.1 < 0 then (laws_FnExactEqGates.j1 kj20 l1 l2 t950 t951 true a0_0 l0_1 l0_2 t943 t944 t947 t967 t968 t971) else ((laws_eqCircuit.f kj20 t967 t968 t971 t943 t944 t947).bind fun t1001 => (if t1001 = true then (if t974 = t950 then (laws_FnExactEqGates.j1 kj20 l1 l2 t950 t951 (t975 != t951) a0_0 l0_1 l0_2 t943 t944 t947 t967 t968 t971) else (laws_FnExactEqGates.j1 kj20 l1 l2 t950 t951 true a0_0 l0_1 l0_2 t943 t944 t947 t967 t968 t971)) else (laws_FnExactEqGates.j1 kj20 l1 l2 t950 t951 true a0_0 l0_1 l0_2 t943 t944 t947 t967 t968 t971))))))) else (some false)))) else (some false)))) else (some false))) = some true := H
       have A88 := Aside0.mk A880
       clear A880
       replace H := Option.bind_eq_some_iff.mp H
       obtain ⟨t985, A890, H⟩ := H
       replace H : (if t985 = true then ((laws_toIntS.f kj20 l1).bind fun t986 => ((laws_eqIntS.f kj20 t961 t986).bind fun t989 => (if t989 = true then ((laws_toIntS.f kj20 l2).bind fun t990 => ((laws_eqIntS.f kj20 t964 t990).bind fun t993 => (if t993 = true then ((laws_markCircuit.f kj20 t953 t954 t957 1).bind fun bt994 => ((laws_markIntS.f kj20 t961 bt994.1).bind fun bt997 => ((laws_markIntS.f kj20 t964 bt997.1).bind fun bt999 => (if bt999.1 < 0 then (laws_FnExactEqGates.j1 kj20 l1 l2 t950 t951 true a0_0 l0_1 l0_2 t943 t944 t947 t967 t968 t971) else ((laws_eqCircuit.f kj20 t967 t968 t971 t943 t944 t947).bind fun t1001 => (if t1001 = true then (if t974 = t950 then (laws_FnExactEqGates.j1 kj20 l1 l2 t950 t951 (t975 != t951) a0_0 l0_1 l0_2 t943 t944 t947 t967 t968 t971) else (laws_FnExactEqGates.j1 kj20 l1 l2 t950 t951 true a0_0 l0_1 l0_2 t943 t944 t947 t967 t968 t971)) else (laws_FnExactEqGates.j1 kj20 l1 l2 t950 t951 true a0_0 l0_1 l0_2 t943 t944 t947 t967 t968 t971))))))) else (some false)))) else (some false)))) else (some false)) = some true := H
       have A89 := Aside0.mk A890
       clear A890
       by_cases c90 : t985 = true
       ·subst c90
        have H1 : ((laws_toIntS.f kj20 l1).bind fun t986 => ((laws_eqIntS.f kj20 t961 t986).bind fun t989 => (if t989 = true then ((laws_toIntS.f kj20 l2).bind fun t990 => ((laws_eqIntS.f kj20 t964 t990).bind fun t993 => (if t993 = true then ((laws_markCircuit.f kj20 t953 t954 t957 1).bind fun bt994 => ((laws_markIntS.f kj20 t961 bt994.1).bind fun bt997 => ((laws_markIntS.f kj20 t964 bt997.1).bind fun bt999 => (if bt999.1 < 0 then (laws_FnExactEqGates.j1 kj20 l1 l2 t950 t951 true a0_0 l0_1 l0_2 t943 t944 t947 t967 t968 t971) else ((laws_eqCircuit.f kj20 t967 t968 t971 t943 t944 t947).bind fun t1001 => (if t1001 = true then (if t974 = t950 then (laws_FnExactEqGates.j1 kj20 l1 l2 t950 t951 (t975 != t951) a0_0 l0_1 l0_2 t943 t944 t947 t967 t968 t971) else (laws_FnExactEqGates.j1 kj20 l1 l2 t950 t951 true a0_0 l0_1 l0_2 t943 t944 t947 t967 t968 t971)) else (laws_FnExactEqGates.j1 kj20 l1 l2 t950 t951 true a0_0 l0_1 l0_2 t943 t944 t947 t967 t968 t971))))))) else (some false)))) else (some false)))) = some true := by rw [if_pos rfl] at H; exact H
        clear H
        have H := H1
        clear H1
        replace H := Option.bind_eq_some_iff.mp H
        obtain ⟨t986, A910, H⟩ := H
        replace H : ((laws_eqIntS.f kj20 t961 t986).bind fun t989 => (if t989 = true then ((laws_toIntS.f kj20 l2).bind fun t990 => ((laws_eqIntS.f kj20 t964 t990).bind fun t993 => (if t993 = true then ((laws_markCircuit.f kj20 t953 t954 t957 1).bind fun bt994 => ((laws_markIntS.f kj20 t961 bt994.1).bind fun bt997 => ((laws_markIntS.f kj20 t964 bt997.1).bind fun bt999 => (if bt999.1 < 0 then (laws_FnExactEqGates.j1 kj20 l1 l2 t950 t951 true a0_0 l0_1 l0_2 t943 t944 t947 t967 t968 t971) else ((laws_eqCircuit.f kj20 t967 t968 t971 t943 t944 t947).bind fun t1001 => (if t1001 = true then (if t974 = t950 then (laws_FnExactEqGates.j1 kj20 l1 l2 t950 t951 (t975 != t951) a0_0 l0_1 l0_2 t943 t944 t947 t967 t968 t971) else (laws_FnExactEqGates.j1 kj20 l1 l2 t950 t951 true a0_0 l0_1 l0_2 t943 t944 t947 t967 t968 t971)) else (laws_FnExactEqGates.j1 kj20 l1 l2 t950 t951 true a0_0 l0_1 l0_2 t943 t944 t947 t967 t968 t971))))))) else (some false)))) else (some false))) = some true := H
        have A91 := Aside0.mk A910
        clear A910
        replace H := Option.bind_eq_some_iff.mp H
        obtain ⟨t989, A920, H⟩ := H
        replace H : (if t989 = true then ((laws_toIntS.f kj20 l2).bind fun t990 => ((laws_eqIntS.f kj20 t964 t990).bind fun t993 => (if t993 = true then ((laws_markCircuit.f kj20 t953 t954 t957 1).bind fun bt994 => ((laws_markIntS.f kj20 t961 bt994.1).bind fun bt997 => ((laws_markIntS.f kj20 t964 bt997.1).bind fun bt999 => (if bt999.1 < 0 then (laws_FnExactEqGates.j1 kj20 l1 l2 t950 t951 true a0_0 l0_1 l0_2 t943 t944 t947 t967 t968 t971) else ((laws_eqCircuit.f kj20 t967 t968 t971 t943 t944 t947).bind fun t1001 => (if t1001 = true then (if t974 = t950 then (laws_FnExactEqGates.j1 kj20 l1 l2 t950 t951 (t975 != t951) a0_0 l0_1 l0_2 t943 t944 t947 t967 t968 t971) else (laws_FnExactEqGates.j1 kj20 l1 l2 t950 t951 true a0_0 l0_1 l0_2 t943 t944 t947 t967 t968 t971)) else (laws_FnExactEqGates.j1 kj20 l1 l2 t950 t951 true a0_0 l0_1 l0_2 t943 t944 t947 t967 t968 t971))))))) else (some false)))) else (some false)) = some true := H
        have A92 := Aside0.mk A920
        clear A920
        by_cases c93 : t989 = true
        ·subst c93
         have H1 : ((laws_toIntS.f kj20 l2).bind fun t990 => ((laws_eqIntS.f kj20 t964 t990).bind fun t993 => (if t993 = true then ((laws_markCircuit.f kj20 t953 t954 t957 1).bind fun bt994 => ((laws_markIntS.f kj20 t961 bt994.1).bind fun bt997 => ((laws_markIntS.f kj20 t964 bt997.1).bind fun bt999 => (if bt999.1 < 0 then (laws_FnExactEqGates.j1 kj20 l1 l2 t950 t951 true a0_0 l0_1 l0_2 t943 t944 t947 t967 t968 t971) else ((laws_eqCircuit.f kj20 t967 t968 t971 t943 t944 t947).bind fun t1001 => (if t1001 = true then (if t974 = t950 then (laws_FnExactEqGates.j1 kj20 l1 l2 t950 t951 (t975 != t951) a0_0 l0_1 l0_2 t943 t944 t947 t967 t968 t971) else (laws_FnExactEqGates.j1 kj20 l1 l2 t950 t951 true a0_0 l0_1 l0_2 t943 t944 t947 t967 t968 t971)) else (laws_FnExactEqGates.j1 kj20 l1 l2 t950 t951 true a0_0 l0_1 l0_2 t943 t944 t947 t967 t968 t971))))))) else (some false)))) = some true := by rw [if_pos rfl] at H; exact H
         clear H
         have H := H1
         clear H1
         replace H := Option.bind_eq_some_iff.mp H
         obtain ⟨t990, A940, H⟩ := H
         replace H : ((laws_eqIntS.f kj20 t964 t990).bind fun t993 => (if t993 = true then ((laws_markCircuit.f kj20 t953 t954 t957 1).bind fun bt994 => ((laws_markIntS.f kj20 t961 bt994.1).bind fun bt997 => ((laws_markIntS.f kj20 t964 bt997.1).bind fun bt999 => (if bt999.1 < 0 then (laws_FnExactEqGates.j1 kj20 l1 l2 t950 t951 true a0_0 l0_1 l0_2 t943 t944 t947 t967 t968 t971) else ((laws_eqCircuit.f kj20 t967 t968 t971 t943 t944 t947).bind fun t1001 => (if t1001 = true then (if t974 = t950 then (laws_FnExactEqGates.j1 kj20 l1 l2 t950 t951 (t975 != t951) a0_0 l0_1 l0_2 t943 t944 t947 t967 t968 t971) else (laws_FnExactEqGates.j1 kj20 l1 l2 t950 t951 true a0_0 l0_1 l0_2 t943 t944 t947 t967 t968 t971)) else (laws_FnExactEqGates.j1 kj20 l1 l2 t950 t951 true a0_0 l0_1 l0_2 t943 t944 t947 t967 t968 t971))))))) else (some false))) = some true := H
         have A94 := Aside0.mk A940
         clear A940
         replace H := Option.bind_eq_some_iff.mp H
         obtain ⟨t993, A950, H⟩ := H
         replace H : (if t993 = true then ((laws_markCircuit.f kj20 t953 t954 t957 1).bind fun bt994 => ((laws_markIntS.f kj20 t961 bt994.1).bind fun bt997 => ((laws_markIntS.f kj20 t964 bt997.1).bind fun bt999 => (if bt999.1 < 0 then (laws_FnExactEqGates.j1 kj20 l1 l2 t950 t951 true a0_0 l0_1 l0_2 t943 t944 t947 t967 t968 t971) else ((laws_eqCircuit.f kj20 t967 t968 t971 t943 t944 t947).bind fun t1001 => (if t1001 = true then (if t974 = t950 then (laws_FnExactEqGates.j1 kj20 l1 l2 t950 t951 (t975 != t951) a0_0 l0_1 l0_2 t943 t944 t947 t967 t968 t971) else (laws_FnExactEqGates.j1 kj20 l1 l2 t950 t951 true a0_0 l0_1 l0_2 t943 t944 t947 t967 t968 t971)) else (laws_FnExactEqGates.j1 kj20 l1 l2 t950 t951 true a0_0 l0_1 l0_2 t943 t944 t947 t967 t968 t971))))))) else (some false)) = some true := H
         have A95 := Aside0.mk A950
         clear A950
         by_cases c96 : t993 = true
         ·subst c96
          have H1 : ((laws_markCircuit.f kj20 t953 t954 t957 1).bind fun bt994 => ((laws_markIntS.f kj20 t961 bt994.1).bind fun bt997 => ((laws_markIntS.f kj20 t964 bt997.1).bind fun bt999 => (if bt999.1 < 0 then (laws_FnExactEqGates.j1 kj20 l1 l2 t950 t951 true a0_0 l0_1 l0_2 t943 t944 t947 t967 t968 t971) else ((laws_eqCircuit.f kj20 t967 t968 t971 t943 t944 t947).bind fun t1001 => (if t1001 = true then (if t974 = t950 then (laws_FnExactEqGates.j1 kj20 l1 l2 t950 t951 (t975 != t951) a0_0 l0_1 l0_2 t943 t944 t947 t967 t968 t971) else (laws_FnExactEqGates.j1 kj20 l1 l2 t950 t951 true a0_0 l0_1 l0_2 t943 t944 t947 t967 t968 t971)) else (laws_FnExactEqGates.j1 kj20 l1 l2 t950 t951 true a0_0 l0_1 l0_2 t943 t944 t947 t967 t968 t971))))))) = some true := by rw [if_pos rfl] at H; exact H
          clear H
          have H := H1
          clear H1
          replace H := Option.bind_eq_some_iff.mp H
          obtain ⟨⟨t994, t995, t996⟩, A970, H⟩ := H
          replace H : ((laws_markIntS.f kj20 t961 t994).bind fun bt997 => ((laws_markIntS.f kj20 t964 bt997.1).bind fun bt999 => (if bt999.1 < 0 then (laws_FnExactEqGates.j1 kj20 l1 l2 t950 t951 true a0_0 l0_1 l0_2 t943 t944 t947 t967 t968 t971) else ((laws_eqCircuit.f kj20 t967 t968 t971 t943 t944 t947).bind fun t1001 => (if t1001 = true then (if t974 = t950 then (laws_FnExactEqGates.j1 kj20 l1 l2 t950 t951 (t975 != t951) a0_0 l0_1 l0_2 t943 t944 t947 t967 t968 t971) else (laws_FnExactEqGates.j1 kj20 l1 l2 t950 t951 true a0_0 l0_1 l0_2 t943 t944 t947 t967 t968 t971)) else (laws_FnExactEqGates.j1 kj20 l1 l2 t950 t951 true a0_0 l0_1 l0_2 t943 t944 t947 t967 t968 t971)))))) = some true := H
          have A97 := Aside0.mk A970
          clear A970
          replace H := Option.bind_eq_some_iff.mp H
          obtain ⟨⟨t997, t998⟩, A980, H⟩ := H
          replace H : ((laws_markIntS.f kj20 t964 t997).bind fun bt999 => (if bt999.1 < 0 then (laws_FnExactEqGates.j1 kj20 l1 l2 t950 t951 true a0_0 l0_1 l0_2 t943 t944 t947 t967 t968 t971) else ((laws_eqCircuit.f kj20 t967 t968 t971 t943 t944 t947).bind fun t1001 => (if t1001 = true then (if t974 = t950 then (laws_FnExactEqGates.j1 kj20 l1 l2 t950 t951 (t975 != t951) a0_0 l0_1 l0_2 t943 t944 t947 t967 t968 t971) else (laws_FnExactEqGates.j1 kj20 l1 l2 t950 t951 true a0_0 l0_1 l0_2 t943 t944 t947 t967 t968 t971)) else (laws_FnExactEqGates.j1 kj20 l1 l2 t950 t951 true a0_0 l0_1 l0_2 t943 t944 t947 t967 t968 t971))))) = some true := H
          have A98 := Aside0.mk A980
          clear A980
          replace H := Option.bind_eq_some_iff.mp H
          obtain ⟨⟨t999, t1000⟩, A990, H⟩ := H
          replace H : (if t999 < 0 then (laws_FnExactEqGates.j1 kj20 l1 l2 t950 t951 true a0_0 l0_1 l0_2 t943 t944 t947 t967 t968 t971) else ((laws_eqCircuit.f kj20 t967 t968 t971 t943 t944 t947).bind fun t1001 => (if t1001 = true then (if t974 = t950 then (laws_FnExactEqGates.j1 kj20 l1 l2 t950 t951 (t975 != t951) a0_0 l0_1 l0_2 t943 t944 t947 t967 t968 t971) else (laws_FnExactEqGates.j1 kj20 l1 l2 t950 t951 true a0_0 l0_1 l0_2 t943 t944 t947 t967 t968 t971)) else (laws_FnExactEqGates.j1 kj20 l1 l2 t950 t951 true a0_0 l0_1 l0_2 t943 t944 t947 t967 t968 t971)))) = some true := H
          have A99 := Aside0.mk A990
          clear A990
          have HC100 := Aside0.mk H
          clear H
          try go_wp2
          have n0_ := Aside0.mk (Kd.R_drew HO_12.out)
          have n1_ := Aside0.mk (Kd.R_drew HO_13.out)
          have n2_ := Aside0.mk (Kd.R_drew HO_953001.out)
          have n3_ := Aside0.mk (Kd.R_drew HO_953002.out)
          have n4_ := Aside0.mk (Kd.R_drew HO_961001.out)
          have n5_ := Aside0.mk (Kd.R_drew HO_961002.out)
          have n6_ := Aside0.mk (Kd.R_drew HO_977001.out)
          have n7_ := Aside0.mk (Kd.R_drew HO_977002.out)
          have n8_ := Aside0.mk (blk_drew BK928.out)
          have n9_ := Aside0.mk (blk_drew BK952.out)
          have n10_ := Aside0.mk (blk_drew BK960.out)
          have n11_ := Aside0.mk (blk_drew BK976.out)
          have n12_ := Aside0.mk (below_drew1 HB.out)
          clear HO_12
          clear HO_13
          clear HO_953001
          clear HO_953002
          clear HO_961001
          clear HO_961002
          clear HO_977001
          clear HO_977002
          clear BK928
          clear BK952
          clear BK960
          clear BK976
          clear HB
          have HO_12 := n0_
          have HO_13 := n1_
          have HO_953001 := n2_
          have HO_953002 := n3_
          have HO_961001 := n4_
          have HO_961002 := n5_
          have HO_977001 := n6_
          have HO_977002 := n7_
          have BK928 := n8_
          have BK952 := n9_
          have BK960 := n10_
          have BK976 := n11_
          have HB := n12_
          clear n0_ n1_ n2_ n3_ n4_ n5_ n6_ n7_ n8_ n9_ n10_ n11_ n12_
          refine start_ (n := 5) (S := fun w' => w'.cell? ⟨gb960, 0, none⟩ = some (.int .i64 t953) ∧ w'.cell? ⟨gb960, 1, none⟩ = some (.slice Ao45 t954.length co45) ∧ w'.cell? ⟨gb960, 2, none⟩ = some (.slice Ao46 t957.length co46) ∧ w'.cell? ⟨gb928, 0, none⟩ = some (.int .i64 a0_0) ∧ w'.cell? ⟨gb928, 1, none⟩ = some (.slice A0_1 l0_1.length c0_1) ∧ w'.cell? ⟨gb928, 2, none⟩ = some (.slice A0_2 l0_2.length c0_2)) (ds := []) #[false, false, false, false, false] (by kernel_rfl) rfl rfl ⟨(blk_cell BK960.out 0).trans rfl, (blk_cell BK960.out 1).trans rfl, (blk_cell BK960.out 2).trans rfl, (blk_cell BK928.out 0).trans rfl, (blk_cell BK928.out 1).trans rfl, (blk_cell BK928.out 2).trans rfl⟩ (fun hHeld => ?_)
          generalize wc.drew = w101 at HO_12 HO_13 HO_953001 HO_953002 HO_961001 HO_961002 HO_977001 HO_977002 BK928 BK952 BK960 BK976 HB hHeld ⊢
          refine take_ (i := 0) (N := some 73) (v := ?_) (a' := ?_) #[true, false, false, false, false] rfl rfl (by kernel_rfl) (fun _ _ _ h => h) (Or.inl ⟨by rfl, ?_⟩) hHeld ?_ ?_
          rotate_left
          ·rintro w' ⟨s0, s1, s2, s3, s4, s5⟩
           go_simp
           with_reducible rfl
          rotate_left
          ·simp only [Act.put, List.setIfInBounds_toArray, List.set_cons_zero, List.set_cons_succ, i64_w, i32_w]
           rfl
          refine take_ (i := 1) (N := some 74) (v := ?_) (a' := ?_) #[true, true, false, false, false] rfl rfl (by kernel_rfl) (fun _ _ _ h => h) (Or.inl ⟨by rfl, ?_⟩) hHeld ?_ ?_
          rotate_left
          ·rintro w' ⟨s0, s1, s2, s3, s4, s5⟩
           go_simp
           with_reducible rfl
          rotate_left
          ·simp only [Act.put, List.setIfInBounds_toArray, List.set_cons_zero, List.set_cons_succ, i64_w, i32_w]
           rfl
          refine one_ (i := 2) (N := some 75) #[true, true, true, false, false] rfl rfl (by kernel_rfl) (by decide) (fun K hK => ?_)
          refine goes_ Try.func13 (by kernel_rfl) rfl #[.agg #[.int .i64 a0_0, .slice A0_1 l0_1.length c0_1, .slice A0_2 l0_2.length c0_2]] (by rfl) rfl rfl qG ?_
          with_reducible refine (laws_toCircuit.calls kj20 a0_0 _ _ l0_1 _ _ l0_2 t978 t979 t982 _ ?side1 ?side2 ?side3 ?side4 A88.out).mono ?_
          (case side1 => exact qC (Kd.C_below HR0_1.out HB.out))
          (case side2 => exact HC0_1.out)
          (case side3 => exact qC (Kd.C_below HR0_2.out HB.out))
          (case side4 => exact HC0_2.out)
          rintro e w102 ⟨v980, v983, rfl, ho0, ho1, hb⟩
          refine ⟨_, rfl, ?_⟩
          have n0_ := Aside0.mk (Kd.R_elder' (qR HO_12.out) (Kd.R_base ho1) hb)
          have n1_ := Aside0.mk (Kd.R_elder' (qR HO_13.out) (Kd.R_base ho1) hb)
          have n2_ := Aside0.mk (Kd.R_elder' (qR HO_953001.out) (Kd.R_base ho0) hb)
          have n3_ := Aside0.mk (Kd.R_elder' (qR HO_953002.out) (Kd.R_base ho1) hb)
          have n4_ := Aside0.mk (Kd.R_elder' (qR HO_961001.out) (Kd.R_base ho0) hb)
          have n5_ := Aside0.mk (Kd.R_elder' (qR HO_961002.out) (Kd.R_base ho1) hb)
          have n6_ := Aside0.mk (Kd.R_elder' (qR HO_977001.out) (Kd.R_base ho0) hb)
          have n7_ := Aside0.mk (Kd.R_elder' (qR HO_977002.out) (Kd.R_base ho1) hb)
          have n8_ := Aside0.mk (Kd.R_lower (Kd.R_new' (Kd.R_new' (Kd.R_new' ho0 (Kd.R_lt (qR HO_953001.out))) (Kd.R_lt (qR HO_961001.out))) (Kd.R_lt (qR HO_977001.out))) (below_size (qB)))
          have n9_ := Aside0.mk (Kd.R_lower (Kd.R_new' (Kd.R_new' (Kd.R_new' (Kd.R_new' (Kd.R_new' ho1 (Kd.R_lt (qR HO_12.out))) (Kd.R_lt (qR HO_13.out))) (Kd.R_lt (qR HO_953002.out))) (Kd.R_lt (qR HO_961002.out))) (Kd.R_lt (qR HO_977002.out))) (below_size (qB)))
          have n10_ := Aside0.mk (blk_below (g := gb928) (o := .cells #[.int .i64 a0_0, .slice A0_1 l0_1.length c0_1, .slice A0_2 l0_2.length c0_2] 25 (0, 0)) (qK BK928.out) hb)
          have n11_ := Aside0.mk (blk_below (g := gb952) (o := .cells #[.int .i64 t943, .slice Ao37 t944.length co37, .slice Ao38 t947.length co38] 30 (0, 0)) (qK BK952.out) hb)
          have n12_ := Aside0.mk (blk_below (g := gb960) (o := .cells #[.int .i64 t953, .slice Ao45 t954.length co45, .slice Ao46 t957.length co46] 30 (0, 0)) (qK BK960.out) hb)
          have n13_ := Aside0.mk (blk_below (g := gb976) (o := .cells #[.int .i64 t967, .slice Ao58 t968.length co58, .slice Ao59 t971.length co59] 30 (0, 0)) (qK BK976.out) hb)
          have n14_ := Aside0.mk (below_step (qB) hb)
          clear HO_12
          clear HO_13
          clear HO_953001
          clear HO_953002
          clear HO_961001
          clear HO_961002
          clear HO_977001
          clear HO_977002
          clear BK928
          clear BK952
          clear BK960
          clear BK976
          clear HB
          have HO_12 := n0_
          have HO_13 := n1_
          have HO_953001 := n2_
          have HO_953002 := n3_
          have HO_961001 := n4_
          have HO_961002 := n5_
          have HO_977001 := n6_
          have HO_977002 := n7_
          have HO981 := n8_
          have HO984 := n9_
          have BK928 := n10_
          have BK952 := n11_
          have BK960 := n12_
          have BK976 := n13_
          have HB := n14_
          clear n0_ n1_ n2_ n3_ n4_ n5_ n6_ n7_ n8_ n9_ n10_ n11_ n12_ n13_ n14_
          (try clear hb)
          (try clear hb2)
          (try clear hk)
          (try clear hi)
          (try clear ho0)
          (try clear ho1)
          obtain ⟨Ao103, co103, eo103⟩ := Kd.R_slice HO981.out
          (first | subst eo103 | (injection eo103 with f1_ f2_ f3_; have f4_ := f1_.symm; have f5_ := f3_.symm; clear f1_ f2_ f3_; subst f4_; subst f5_))
          obtain ⟨Ao104, co104, eo104⟩ := Kd.R_slice HO984.out
          (first | subst eo104 | (injection eo104 with f1_ f2_ f3_; have f4_ := f1_.symm; have f5_ := f3_.symm; clear f1_ f2_ f3_; subst f4_; subst f5_))
          refine hK.out _ _ ⟨(blk_cell BK960.out 0).trans rfl, (blk_cell BK960.out 1).trans rfl, (blk_cell BK960.out 2).trans rfl, (blk_cell BK928.out 0).trans rfl, (blk_cell BK928.out 1).trans rfl, (blk_cell BK928.out 2).trans rfl⟩ (fun hHeld => ?_)
          clear hK K
          refine norm_ (a' := ?_) ?_ ?_
          rotate_left
          ·show Act.put _ (some 75) _ = _
           simp only [Act.put, List.setIfInBounds_toArray, List.set_cons_zero, List.set_cons_succ, i64_w, i32_w]
           rfl
          refine one_ (i := 3) (N := some 76) #[true, true, true, true, false] rfl rfl (by kernel_rfl) (by decide) (fun K hK => ?_)
          refine goes_ Try.func15 (by kernel_rfl) rfl #[.agg #[.int .i64 t953, .slice Ao45 t954.length co45, .slice Ao46 t957.length co46], .agg #[.int .i64 t978, .slice Ao103 t979.length co103, .slice Ao104 t982.length co104]] (by rfl) rfl rfl qG ?_
          with_reducible refine (laws_eqCircuit.calls kj20 t953 _ _ t954 _ _ t957 t978 _ _ t979 _ _ t982 true _ ?side1 ?side2 ?side3 ?side4 ?side5 ?side6 ?side7 ?side8 A89.out).mono ?_
          (case side1 => repeat (first | exact (Kd.R_reads' HO_961001.out).2.2 | (with_reducible refine Kd.C_alloc ?_ _) | (with_reducible refine Kd.C_drewN ?_ _) | (with_reducible refine Kd.C_drew ?_)))
          (case side2 => exact (Kd.R_reads' HO_961001.out).2.1)
          (case side3 => repeat (first | exact (Kd.R_reads' HO_961002.out).2.2 | (with_reducible refine Kd.C_alloc ?_ _) | (with_reducible refine Kd.C_drewN ?_ _) | (with_reducible refine Kd.C_drew ?_)))
          (case side4 => exact (Kd.R_reads' HO_961002.out).2.1)
          (case side5 => repeat (first | exact (Kd.R_reads' HO981.out).2.2 | (with_reducible refine Kd.C_alloc ?_ _) | (with_reducible refine Kd.C_drewN ?_ _) | (with_reducible refine Kd.C_drew ?_)))
          (case side6 => exact (Kd.R_reads' HO981.out).2.1)
          (case side7 => repeat (first | exact (Kd.R_reads' HO984.out).2.2 | (with_reducible refine Kd.C_alloc ?_ _) | (with_reducible refine Kd.C_drewN ?_ _) | (with_reducible refine Kd.C_drew ?_)))
          (case side8 => exact (Kd.R_reads' HO984.out).2.1)
          rintro e w105 ⟨rfl, hb⟩
          refine ⟨_, rfl, ?_⟩
          have n0_ := Aside0.mk (Kd.R_below (qR HO_12.out) hb)
          have n1_ := Aside0.mk (Kd.R_below (qR HO_13.out) hb)
          have n2_ := Aside0.mk (Kd.R_below (qR HO_953001.out) hb)
          have n3_ := Aside0.mk (Kd.R_below (qR HO_953002.out) hb)
          have n4_ := Aside0.mk (Kd.R_below (qR HO_961001.out) hb)
          have n5_ := Aside0.mk (Kd.R_below (qR HO_961002.out) hb)
          have n6_ := Aside0.mk (Kd.R_below (qR HO_977001.out) hb)
          have n7_ := Aside0.mk (Kd.R_below (qR HO_977002.out) hb)
          have n8_ := Aside0.mk (Kd.R_below (qR HO981.out) hb)
          have n9_ := Aside0.mk (Kd.R_below (qR HO984.out) hb)
          have n10_ := Aside0.mk (blk_below (g := gb928) (o := .cells #[.int .i64 a0_0, .slice A0_1 l0_1.length c0_1, .slice A0_2 l0_2.length c0_2] 25 (0, 0)) (qK BK928.out) hb)
          have n11_ := Aside0.mk (blk_below (g := gb952) (o := .cells #[.int .i64 t943, .slice Ao37 t944.length co37, .slice Ao38 t947.length co38] 30 (0, 0)) (qK BK952.out) hb)
          have n12_ := Aside0.mk (blk_below (g := gb960) (o := .cells #[.int .i64 t953, .slice Ao45 t954.length co45, .slice Ao46 t957.length co46] 30 (0, 0)) (qK BK960.out) hb)
          have n13_ := Aside0.mk (blk_below (g := gb976) (o := .cells #[.int .i64 t967, .slice Ao58 t968.length co58, .slice Ao59 t971.length co59] 30 (0, 0)) (qK BK976.out) hb)
          have n14_ := Aside0.mk (below_step (qB) hb)
          clear HO_12
          clear HO_13
          clear HO_953001
          clear HO_953002
          clear HO_961001
          clear HO_961002
          clear HO_977001
          clear HO_977002
          clear HO981
          clear HO984
          clear BK928
          clear BK952
          clear BK960
          clear BK976
          clear HB
          have HO_12 := n0_
          have HO_13 := n1_
          have HO_953001 := n2_
          have HO_953002 := n3_
          have HO_961001 := n4_
          have HO_961002 := n5_
          have HO_977001 := n6_
          have HO_977002 := n7_
          have HO981 := n8_
          have HO984 := n9_
          have BK928 := n10_
          have BK952 := n11_
          have BK960 := n12_
          have BK976 := n13_
          have HB := n14_
          clear n0_ n1_ n2_ n3_ n4_ n5_ n6_ n7_ n8_ n9_ n10_ n11_ n12_ n13_ n14_
          (try clear hb)
          (try clear hb2)
          (try clear hk)
          (try clear hi)
          refine hK.out _ _ ⟨(blk_cell BK960.out 0).trans rfl, (blk_cell BK960.out 1).trans rfl, (blk_cell BK960.out 2).trans rfl, (blk_cell BK928.out 0).trans rfl, (blk_cell BK928.out 1).trans rfl, (blk_cell BK928.out 2).trans rfl⟩ (fun hHeld => ?_)
          clear hK K
          refine norm_ (a' := ?_) ?_ ?_
          rotate_left
          ·show Act.put _ (some 76) _ = _
           simp only [Act.put, List.setIfInBounds_toArray, List.set_cons_zero, List.set_cons_succ, i64_w, i32_w]
           rfl
          refine pure_ (i := 4) (N := some 77) (v := ?_) (a' := ?_) #[true, true, true, true, true] rfl rfl (by kernel_rfl) (fun _ _ _ h => h) (Or.inl ⟨by rfl, ?_⟩) ?_ ?_
          rotate_left
          ·intro w'
           go_simp
           with_reducible rfl
          rotate_left
          ·simp only [Act.put, List.setIfInBounds_toArray, List.set_cons_zero, List.set_cons_succ, i64_w, i32_w]
           rfl
          refine done_ (by kernel_rfl) ?_
          go_upto_region 26 with (first | ((with_reducible refine gate_callee (f := 34) rfl ?_); refine goesL_ (some 80) rfl rfl Try.func34 (by kernel_rfl) rfl #[.slice A1 l1.length c1] rfl qG ?_; (with_reducible refine (laws_toIntS.calls kj20 _ _ l1 t986 _ ?side1 ?side2 A91.out).mono ?_); (case side1 => exact qC (Kd.C_below HR1.out HB.out)); (case side2 => exact HC1.out); rintro e w106 ⟨v987, rfl, ho0, hb⟩; refine ⟨_, rfl, ?_⟩; have n0_ := Aside0.mk (Kd.R_elder' (qR HO_12.out) (Kd.R_base ho0) hb); have n1_ := Aside0.mk (Kd.R_elder' (qR HO_13.out) (Kd.R_base ho0) hb); have n2_ := Aside0.mk (Kd.R_below (qR HO_953001.out) hb); have n3_ := Aside0.mk (Kd.R_elder' (qR HO_953002.out) (Kd.R_base ho0) hb); have n4_ := Aside0.mk (Kd.R_below (qR HO_961001.out) hb); have n5_ := Aside0.mk (Kd.R_elder' (qR HO_961002.out) (Kd.R_base ho0) hb); have n6_ := Aside0.mk (Kd.R_below (qR HO_977001.out) hb); have n7_ := Aside0.mk (Kd.R_elder' (qR HO_977002.out) (Kd.R_base ho0) hb); have n8_ := Aside0.mk (Kd.R_below (qR HO981.out) hb); have n9_ := Aside0.mk (Kd.R_elder' (qR HO984.out) (Kd.R_base ho0) hb); have n10_ := Aside0.mk (Kd.R_lower (Kd.R_new' (Kd.R_new' (Kd.R_new' (Kd.R_new' (Kd.R_new' (Kd.R_new' ho0 (Kd.R_lt (qR HO_12.out))) (Kd.R_lt (qR HO_13.out))) (Kd.R_lt (qR HO_953002.out))) (Kd.R_lt (qR HO_961002.out))) (Kd.R_lt (qR HO_977002.out))) (Kd.R_lt (qR HO984.out))) (below_size (qB))); have n11_ := Aside0.mk (blk_below (g := gb928) (o := .cells #[.int .i64 a0_0, .slice A0_1 l0_1.length c0_1, .slice A0_2 l0_2.length c0_2] 25 (0, 0)) (qK BK928.out) hb); have n12_ := Aside0.mk (blk_below (g := gb952) (o := .cells #[.int .i64 t943, .slice Ao37 t944.length co37, .slice Ao38 t947.length co38] 30 (0, 0)) (qK BK952.out) hb); have n13_ := Aside0.mk (blk_below (g := gb960) (o := .cells #[.int .i64 t953, .slice Ao45 t954.length co45, .slice Ao46 t957.length co46] 30 (0, 0)) (qK BK960.out) hb); have n14_ := Aside0.mk (blk_below (g := gb976) (o := .cells #[.int .i64 t967, .slice Ao58 t968.length co58, .slice Ao59 t971.length co59] 30 (0, 0)) (qK BK976.out) hb); have n15_ := Aside0.mk (below_step (qB) hb); clear HO_12; clear HO_13; clear HO_953001; clear HO_953002; clear HO_961001; clear HO_961002; clear HO_977001; clear HO_977002; clear HO981; clear HO984; clear BK928; clear BK952; clear BK960; clear BK976; clear HB; have HO_12 := n0_; have HO_13 := n1_; have HO_953001 := n2_; have HO_953002 := n3_; have HO_961001 := n4_; have HO_961002 := n5_; have HO_977001 := n6_; have HO_977002 := n7_; have HO981 := n8_; have HO984 := n9_; have HO988 := n10_; have BK928 := n11_; have BK952 := n12_; have BK960 := n13_; have BK976 := n14_; have HB := n15_; clear n0_ n1_ n2_ n3_ n4_ n5_ n6_ n7_ n8_ n9_ n10_ n11_ n12_ n13_ n14_ n15_; (try clear hb); (try clear hb2); (try clear hk); (try clear hi); (try clear ho0); obtain ⟨Ao107, co107, eo107⟩ := Kd.R_slice HO988.out; subst eo107) | ((with_reducible refine gate_callee (f := 27) rfl ?_); refine goesL_ (some 81) rfl rfl Try.func27 (by kernel_rfl) rfl #[.slice Ao50 t961.length co50, .slice Ao107 t986.length co107] rfl qG ?_; (with_reducible refine (laws_eqIntS.calls kj20 _ _ t961 _ _ t986 true _ ?side1 ?side2 ?side3 ?side4 A92.out).mono ?_); (case side1 => repeat (first | exact (Kd.R_reads' HO_12.out).2.2 | (with_reducible refine Kd.C_alloc ?_ _) | (with_reducible refine Kd.C_drewN ?_ _) | (with_reducible refine Kd.C_drew ?_))); (case side2 => exact (Kd.R_reads' HO_12.out).2.1); (case side3 => repeat (first | exact (Kd.R_reads' HO988.out).2.2 | (with_reducible refine Kd.C_alloc ?_ _) | (with_reducible refine Kd.C_drewN ?_ _) | (with_reducible refine Kd.C_drew ?_))); (case side4 => exact (Kd.R_reads' HO988.out).2.1); rintro e w' ⟨rfl, ⟨nd, rfl⟩⟩; refine ⟨_, rfl, ?_⟩) | ((with_reducible refine gate_callee (f := 34) rfl ?_); refine goesL_ (some 85) rfl rfl Try.func34 (by kernel_rfl) rfl #[.slice A2 l2.length c2] rfl qG ?_; (with_reducible refine (laws_toIntS.calls kj20 _ _ l2 t990 _ ?side1 ?side2 A94.out).mono ?_); (case side1 => repeat (first | exact (Kd.C_below HR2.out (qB)) | (with_reducible refine Kd.C_alloc ?_ _) | (with_reducible refine Kd.C_drewN ?_ _) | (with_reducible refine Kd.C_drew ?_))); (case side2 => exact HC2.out); rintro e w108 ⟨v991, rfl, ho0, hb⟩; refine ⟨_, rfl, ?_⟩; have n0_ := Aside0.mk (Kd.R_elder' (qR HO_12.out) (Kd.R_base ho0) hb); have n1_ := Aside0.mk (Kd.R_elder' (qR HO_13.out) (Kd.R_base ho0) hb); have n2_ := Aside0.mk (Kd.R_below (qR HO_953001.out) hb); have n3_ := Aside0.mk (Kd.R_elder' (qR HO_953002.out) (Kd.R_base ho0) hb); have n4_ := Aside0.mk (Kd.R_below (qR HO_961001.out) hb); have n5_ := Aside0.mk (Kd.R_elder' (qR HO_961002.out) (Kd.R_base ho0) hb); have n6_ := Aside0.mk (Kd.R_below (qR HO_977001.out) hb); have n7_ := Aside0.mk (Kd.R_elder' (qR HO_977002.out) (Kd.R_base ho0) hb); have n8_ := Aside0.mk (Kd.R_below (qR HO981.out) hb); have n9_ := Aside0.mk (Kd.R_elder' (qR HO984.out) (Kd.R_base ho0) hb); have n10_ := Aside0.mk (Kd.R_elder' (qR HO988.out) (Kd.R_base ho0) hb); have n11_ := Aside0.mk (Kd.R_lower (Kd.R_new' (Kd.R_new' (Kd.R_new' (Kd.R_new' (Kd.R_new' (Kd.R_new' (Kd.R_new' ho0 (Kd.R_lt (qR HO_12.out))) (Kd.R_lt (qR HO_13.out))) (Kd.R_lt (qR HO_953002.out))) (Kd.R_lt (qR HO_961002.out))) (Kd.R_lt (qR HO_977002.out))) (Kd.R_lt (qR HO984.out))) (Kd.R_lt (qR HO988.out))) (below_size (qB))); have n12_ := Aside0.mk (blk_below (g := gb928) (o := .cells #[.int .i64 a0_0, .slice A0_1 l0_1.length c0_1, .slice A0_2 l0_2.length c0_2] 25 (0, 0)) (qK BK928.out) hb); have n13_ := Aside0.mk (blk_below (g := gb952) (o := .cells #[.int .i64 t943, .slice Ao37 t944.length co37, .slice Ao38 t947.length co38] 30 (0, 0)) (qK BK952.out) hb); have n14_ := Aside0.mk (blk_below (g := gb960) (o := .cells #[.int .i64 t953, .slice Ao45 t954.length co45, .slice Ao46 t957.length co46] 30 (0, 0)) (qK BK960.out) hb); have n15_ := Aside0.mk (blk_below (g := gb976) (o := .cells #[.int .i64 t967, .slice Ao58 t968.length co58, .slice Ao59 t971.length co59] 30 (0, 0)) (qK BK976.out) hb); have n16_ := Aside0.mk (below_step (qB) hb); clear HO_12; clear HO_13; clear HO_953001; clear HO_953002; clear HO_961001; clear HO_961002; clear HO_977001; clear HO_977002; clear HO981; clear HO984; clear HO988; clear BK928; clear BK952; clear BK960; clear BK976; clear HB; have HO_12 := n0_; have HO_13 := n1_; have HO_953001 := n2_; have HO_953002 := n3_; have HO_961001 := n4_; have HO_961002 := n5_; have HO_977001 := n6_; have HO_977002 := n7_; have HO981 := n8_; have HO984 := n9_; have HO988 := n10_; have HO992 := n11_; have BK928 := n12_; have BK952 := n13_; have BK960 := n14_; have BK976 := n15_; have HB := n16_; clear n0_ n1_ n2_ n3_ n4_ n5_ n6_ n7_ n8_ n9_ n10_ n11_ n12_ n13_ n14_ n15_ n16_; (try clear hb); (try clear hb2); (try clear hk); (try clear hi); (try clear ho0); obtain ⟨Ao109, co109, eo109⟩ := Kd.R_slice HO992.out; subst eo109) | ((with_reducible refine gate_callee (f := 27) rfl ?_); refine goesL_ (some 86) rfl rfl Try.func27 (by kernel_rfl) rfl #[.slice Ao51 t964.length co51, .slice Ao109 t990.length co109] rfl qG ?_; (with_reducible refine (laws_eqIntS.calls kj20 _ _ t964 _ _ t990 true _ ?side1 ?side2 ?side3 ?side4 A95.out).mono ?_); (case side1 => repeat (first | exact (Kd.R_reads' HO_13.out).2.2 | (with_reducible refine Kd.C_alloc ?_ _) | (with_reducible refine Kd.C_drewN ?_ _) | (with_reducible refine Kd.C_drew ?_))); (case side2 => exact (Kd.R_reads' HO_13.out).2.1); (case side3 => repeat (first | exact (Kd.R_reads' HO992.out).2.2 | (with_reducible refine Kd.C_alloc ?_ _) | (with_reducible refine Kd.C_drewN ?_ _) | (with_reducible refine Kd.C_drew ?_))); (case side4 => exact (Kd.R_reads' HO992.out).2.1); rintro e w' ⟨rfl, ⟨nd, rfl⟩⟩; refine ⟨_, rfl, ?_⟩; have hnb110 := NB960_928.out; have hnc110 := NB928_960.out; have hnb111 := NB960_952.out; have hnc111 := NB952_960.out; have hnb112 := NB960_976.out; have hnc112 := NB976_960.out; have hcz113_0 : w108.cell? ⟨gb960, 0, none⟩ = some (.int .i64 t953) := (blk_cell BK960.out 0).trans rfl; have hcz113_1 : w108.cell? ⟨gb960, 1, none⟩ = some (.slice Ao45 t954.length co45) := (blk_cell BK960.out 1).trans rfl; have hcz113_2 : w108.cell? ⟨gb960, 2, none⟩ = some (.slice Ao46 t957.length co46) := (blk_cell BK960.out 2).trans rfl; have hfz113_0 := blk_frozen BK960.out 0; have hfz113_1 := blk_frozen BK960.out 1; have hfz113_2 := blk_frozen BK960.out 2) | ((with_reducible refine gate_callee (f := 20) rfl ?_); refine goesL_ (some 90) rfl rfl Try.func20 (by kernel_rfl) rfl #[.agg #[.int .i64 t953, .slice Ao45 t954.length co45, .slice Ao46 t957.length co46], .int .i64 1] rfl qG ?_; (with_reducible refine (laws_markCircuit.calls kj20 t953 (fun k_ => some k_ = (.slice Ao45 t954.length co45 : Value).ownBlock) (.slice Ao45 t954.length co45) t954 (fun k_ => some k_ = (.slice Ao46 t957.length co46 : Value).ownBlock) (.slice Ao46 t957.length co46) t957 1 t994 t995 t996 w _ ?side1 ?side2 ?side3 A97.out).mono ?_); (case side1 => repeat (first | (with_reducible first | exact HB.out | apply below_alloc | apply pw_below_drewN | apply below_drew1 | refine below_set ?_ GE928.out | refine below_set ?_ GE952.out | refine below_set ?_ GE960.out | refine below_set ?_ GE976.out) | exact HB.out)); (case side2 => exact Kd.R_tight rfl HO_961001.out); (case side3 => exact Kd.R_tight rfl HO_961002.out); rintro e w114 ⟨rfl, hy0, hy1, hb, hkp⟩; refine ⟨_, rfl, ?_⟩; have n0_ := Aside0.mk (Kd.R_mono (ok' := fun k_ => some k_ ≠ (.slice Ao51 t964.length co51 : Value).ownBlock ∧ some k_ ≠ (.slice Ao38 t947.length co38 : Value).ownBlock ∧ some k_ ≠ (.slice Ao46 t957.length co46 : Value).ownBlock ∧ some k_ ≠ (.slice Ao59 t971.length co59 : Value).ownBlock ∧ some k_ ≠ (.slice Ao104 t982.length co104 : Value).ownBlock ∧ some k_ ≠ (.slice Ao107 t986.length co107 : Value).ownBlock ∧ some k_ ≠ (.slice Ao109 t990.length co109 : Value).ownBlock) (Kd.R_keptB ((Kd.R_apart' HO_12.out (Kd.R_typed HO_961001.out) (by decide))) hkp (fun k_ hk_ hs_ => Or.elim hs_ (fun e_ => (hk_.2) e_) (fun e_ => (hk_.1.1.1.1.2.2.1) e_))) (fun k_ hk_ => ⟨hk_.1.1.1.1.1.1, hk_.1.1.1.1.1.2.1, hk_.1.1.1.1.1.2.2.1, hk_.1.1.1.1.1.2.2.2, hk_.1.1.1.1.2, hk_.1.1.1.2, hk_.1.1.2⟩)); have n1_ := Aside0.mk (Kd.R_mono (ok' := fun k_ => some k_ ≠ (.slice Ao50 t961.length co50 : Value).ownBlock ∧ some k_ ≠ (.slice Ao38 t947.length co38 : Value).ownBlock ∧ some k_ ≠ (.slice Ao46 t957.length co46 : Value).ownBlock ∧ some k_ ≠ (.slice Ao59 t971.length co59 : Value).ownBlock ∧ some k_ ≠ (.slice Ao104 t982.length co104 : Value).ownBlock ∧ some k_ ≠ (.slice Ao107 t986.length co107 : Value).ownBlock ∧ some k_ ≠ (.slice Ao109 t990.length co109 : Value).ownBlock) (Kd.R_keptB ((Kd.R_apart' HO_13.out (Kd.R_typed HO_961001.out) (by decide))) hkp (fun k_ hk_ hs_ => Or.elim hs_ (fun e_ => (hk_.2) e_) (fun e_ => (hk_.1.1.1.1.2.2.1) e_))) (fun k_ hk_ => ⟨hk_.1.1.1.1.1.1, hk_.1.1.1.1.1.2.1, hk_.1.1.1.1.1.2.2.1, hk_.1.1.1.1.1.2.2.2, hk_.1.1.1.1.2, hk_.1.1.1.2, hk_.1.1.2⟩)); have n2_ := Aside0.mk (Kd.R_mono (ok' := fun k_ => some k_ ≠ (.slice Ao45 t954.length co45 : Value).ownBlock ∧ some k_ ≠ (.slice Ao58 t968.length co58 : Value).ownBlock ∧ some k_ ≠ (.slice Ao103 t979.length co103 : Value).ownBlock) (Kd.R_keptB ((Kd.R_apart' HO_953001.out (Kd.R_typed HO_961002.out) (by decide))) hkp (fun k_ hk_ hs_ => Or.elim hs_ (fun e_ => (hk_.1.1.1) e_) (fun e_ => (hk_.2) e_))) (fun k_ hk_ => ⟨hk_.1.1.1.1, hk_.1.1.1.2, hk_.1.1.2⟩)); have n3_ := Aside0.mk (Kd.R_mono (ok' := fun k_ => some k_ ≠ (.slice Ao50 t961.length co50 : Value).ownBlock ∧ some k_ ≠ (.slice Ao51 t964.length co51 : Value).ownBlock ∧ some k_ ≠ (.slice Ao46 t957.length co46 : Value).ownBlock ∧ some k_ ≠ (.slice Ao59 t971.length co59 : Value).ownBlock ∧ some k_ ≠ (.slice Ao104 t982.length co104 : Value).ownBlock ∧ some k_ ≠ (.slice Ao107 t986.length co107 : Value).ownBlock ∧ some k_ ≠ (.slice Ao109 t990.length co109 : Value).ownBlock) (Kd.R_keptB ((Kd.R_apart' HO_953002.out (Kd.R_typed HO_961001.out) (by decide))) hkp (fun k_ hk_ hs_ => Or.elim hs_ (fun e_ => (hk_.2) e_) (fun e_ => (hk_.1.1.1.1.2.2.1) e_))) (fun k_ hk_ => ⟨hk_.1.1.1.1.1.1, hk_.1.1.1.1.1.2.1, hk_.1.1.1.1.1.2.2.1, hk_.1.1.1.1.1.2.2.2, hk_.1.1.1.1.2, hk_.1.1.1.2, hk_.1.1.2⟩)); have n4_ := Aside0.mk (Kd.R_reok rfl hy0 (fun k_ e_ => HO_961001.out.1 k_ e_)); have n5_ := Aside0.mk (Kd.R_reok rfl hy1 (fun k_ e_ => HO_961002.out.1 k_ e_)); have n6_ := Aside0.mk (Kd.R_mono (ok' := fun k_ => some k_ ≠ (.slice Ao37 t944.length co37 : Value).ownBlock ∧ some k_ ≠ (.slice Ao45 t954.length co45 : Value).ownBlock ∧ some k_ ≠ (.slice Ao103 t979.length co103 : Value).ownBlock) (Kd.R_keptB ((Kd.R_apart' HO_977001.out (Kd.R_typed HO_961002.out) (by decide))) hkp (fun k_ hk_ hs_ => Or.elim hs_ (fun e_ => (hk_.1.1.2) e_) (fun e_ => (hk_.2) e_))) (fun k_ hk_ => ⟨hk_.1.1.1.1, hk_.1.1.1.2, hk_.1.1.2⟩)); have n7_ := Aside0.mk (Kd.R_mono (ok' := fun k_ => some k_ ≠ (.slice Ao50 t961.length co50 : Value).ownBlock ∧ some k_ ≠ (.slice Ao51 t964.length co51 : Value).ownBlock ∧ some k_ ≠ (.slice Ao38 t947.length co38 : Value).ownBlock ∧ some k_ ≠ (.slice Ao46 t957.length co46 : Value).ownBlock ∧ some k_ ≠ (.slice Ao104 t982.length co104 : Value).ownBlock ∧ some k_ ≠ (.slice Ao107 t986.length co107 : Value).ownBlock ∧ some k_ ≠ (.slice Ao109 t990.length co109 : Value).ownBlock) (Kd.R_keptB ((Kd.R_apart' HO_977002.out (Kd.R_typed HO_961001.out) (by decide))) hkp (fun k_ hk_ hs_ => Or.elim hs_ (fun e_ => (hk_.2) e_) (fun e_ => (hk_.1.1.1.1.2.2.2) e_))) (fun k_ hk_ => ⟨hk_.1.1.1.1.1.1, hk_.1.1.1.1.1.2.1, hk_.1.1.1.1.1.2.2.1, hk_.1.1.1.1.1.2.2.2, hk_.1.1.1.1.2, hk_.1.1.1.2, hk_.1.1.2⟩)); have n8_ := Aside0.mk (blk_kept BK928.out hkp (fun hs_ => Or.elim hs_ (fun e_ => (fun e_ => (Kd.R_ne HO_961001.out BK928.out (by decide)) e_) e_) (fun e_ => (fun e_ => (Kd.R_ne HO_961002.out BK928.out (by decide)) e_) e_))); have n9_ := Aside0.mk (blk_kept BK952.out hkp (fun hs_ => Or.elim hs_ (fun e_ => (fun e_ => (Kd.R_ne HO_961001.out BK952.out (by decide)) e_) e_) (fun e_ => (fun e_ => (Kd.R_ne HO_961002.out BK952.out (by decide)) e_) e_))); have n10_ := Aside0.mk (blk_kept BK960.out hkp (fun hs_ => Or.elim hs_ (fun e_ => (fun e_ => (Kd.R_ne HO_961001.out BK960.out (by decide)) e_) e_) (fun e_ => (fun e_ => (Kd.R_ne HO_961002.out BK960.out (by decide)) e_) e_))); have n11_ := Aside0.mk (blk_kept BK976.out hkp (fun hs_ => Or.elim hs_ (fun e_ => (fun e_ => (Kd.R_ne HO_961001.out BK976.out (by decide)) e_) e_) (fun e_ => (fun e_ => (Kd.R_ne HO_961002.out BK976.out (by decide)) e_) e_))); have n12_ := Aside0.mk (Kd.R_mono (ok' := fun k_ => some k_ ≠ (.slice Ao37 t944.length co37 : Value).ownBlock ∧ some k_ ≠ (.slice Ao45 t954.length co45 : Value).ownBlock ∧ some k_ ≠ (.slice Ao58 t968.length co58 : Value).ownBlock) (Kd.R_keptB ((Kd.R_apart' HO981.out (Kd.R_typed HO_961002.out) (by decide))) hkp (fun k_ hk_ hs_ => Or.elim hs_ (fun e_ => (hk_.1.1.2) e_) (fun e_ => (hk_.2) e_))) (fun k_ hk_ => ⟨hk_.1.1.1.1.2, hk_.1.1.1.2, hk_.1.1.2⟩)); have n13_ := Aside0.mk (Kd.R_mono (ok' := fun k_ => some k_ ≠ (.slice Ao50 t961.length co50 : Value).ownBlock ∧ some k_ ≠ (.slice Ao51 t964.length co51 : Value).ownBlock ∧ some k_ ≠ (.slice Ao38 t947.length co38 : Value).ownBlock ∧ some k_ ≠ (.slice Ao46 t957.length co46 : Value).ownBlock ∧ some k_ ≠ (.slice Ao59 t971.length co59 : Value).ownBlock ∧ some k_ ≠ (.slice Ao107 t986.length co107 : Value).ownBlock ∧ some k_ ≠ (.slice Ao109 t990.length co109 : Value).ownBlock) (Kd.R_keptB ((Kd.R_apart' HO984.out (Kd.R_typed HO_961001.out) (by decide))) hkp (fun k_ hk_ hs_ => Or.elim hs_ (fun e_ => (hk_.2) e_) (fun e_ => (hk_.1.1.1.1.2) e_))) (fun k_ hk_ => ⟨hk_.1.1.1.1.1.1.1.1.2, hk_.1.1.1.1.1.1.1.2, hk_.1.1.1.1.1.1.2, hk_.1.1.1.1.1.2, hk_.1.1.1.1.2, hk_.1.1.1.2, hk_.1.1.2⟩)); have n14_ := Aside0.mk (Kd.R_mono (ok' := fun k_ => some k_ ≠ (.slice Ao50 t961.length co50 : Value).ownBlock ∧ some k_ ≠ (.slice Ao51 t964.length co51 : Value).ownBlock ∧ some k_ ≠ (.slice Ao38 t947.length co38 : Value).ownBlock ∧ some k_ ≠ (.slice Ao46 t957.length co46 : Value).ownBlock ∧ some k_ ≠ (.slice Ao59 t971.length co59 : Value).ownBlock ∧ some k_ ≠ (.slice Ao104 t982.length co104 : Value).ownBlock ∧ some k_ ≠ (.slice Ao109 t990.length co109 : Value).ownBlock) (Kd.R_keptB ((Kd.R_apart' HO988.out (Kd.R_typed HO_961001.out) (by decide))) hkp (fun k_ hk_ hs_ => Or.elim hs_ (fun e_ => (hk_.2) e_) (fun e_ => (hk_.1.1.1.1.2) e_))) (fun k_ hk_ => ⟨hk_.1.1.1.1.1.1.1.1.2, hk_.1.1.1.1.1.1.1.2, hk_.1.1.1.1.1.1.2, hk_.1.1.1.1.1.2, hk_.1.1.1.1.2, hk_.1.1.1.2, hk_.1.1.2⟩)); have n15_ := Aside0.mk (Kd.R_mono (ok' := fun k_ => some k_ ≠ (.slice Ao50 t961.length co50 : Value).ownBlock ∧ some k_ ≠ (.slice Ao51 t964.length co51 : Value).ownBlock ∧ some k_ ≠ (.slice Ao38 t947.length co38 : Value).ownBlock ∧ some k_ ≠ (.slice Ao46 t957.length co46 : Value).ownBlock ∧ some k_ ≠ (.slice Ao59 t971.length co59 : Value).ownBlock ∧ some k_ ≠ (.slice Ao104 t982.length co104 : Value).ownBlock ∧ some k_ ≠ (.slice Ao107 t986.length co107 : Value).ownBlock) (Kd.R_keptB ((Kd.R_apart' HO992.out (Kd.R_typed HO_961001.out) (by decide))) hkp (fun k_ hk_ hs_ => Or.elim hs_ (fun e_ => (hk_.2) e_) (fun e_ => (hk_.1.1.1.1.2) e_))) (fun k_ hk_ => ⟨hk_.1.1.1.1.1.1.1.1.2, hk_.1.1.1.1.1.1.1.2, hk_.1.1.1.1.1.1.2, hk_.1.1.1.1.1.2, hk_.1.1.1.1.2, hk_.1.1.1.2, hk_.1.1.2⟩)); have n16_ := Aside0.mk (hb); clear HO_12; clear HO_13; clear HO_953001; clear HO_953002; clear HO_961001; clear HO_961002; clear HO_977001; clear HO_977002; clear BK928; clear BK952; clear BK960; clear BK976; clear HO981; clear HO984; clear HO988; clear HO992; clear HB; have HO_12 := n0_; have HO_13 := n1_; have HO_953001 := n2_; have HO_953002 := n3_; have HO_961001 := n4_; have HO_961002 := n5_; have HO_977001 := n6_; have HO_977002 := n7_; have BK928 := n8_; have BK952 := n9_; have BK960 := n10_; have BK976 := n11_; have HO981 := n12_; have HO984 := n13_; have HO988 := n14_; have HO992 := n15_; have HB := n16_; clear n0_ n1_ n2_ n3_ n4_ n5_ n6_ n7_ n8_ n9_ n10_ n11_ n12_ n13_ n14_ n15_ n16_; (try clear hb); (try clear hkp); (try clear hy0); (try clear hy1)) | ((with_reducible refine gate_callee (f := 28) rfl ?_); refine goesL_ (some 93) rfl rfl Try.func28 (by kernel_rfl) rfl #[.slice Ao50 t961.length co50, .int .i64 t994] rfl qG ?_; (with_reducible refine (laws_markIntS.calls kj20 (fun k_ => some k_ = (.slice Ao50 t961.length co50 : Value).ownBlock) (.slice Ao50 t961.length co50) t961 t994 t997 t998 w _ ?side1 ?side2 A98.out).mono ?_); (case side1 => repeat (first | (with_reducible first | exact HB.out | apply below_alloc | apply pw_below_drewN | apply below_drew1 | refine below_set ?_ GE928.out | refine below_set ?_ GE952.out | refine below_set ?_ GE960.out | refine below_set ?_ GE976.out) | exact HB.out)); (case side2 => exact Kd.R_tight rfl HO_12.out); rintro e w115 ⟨rfl, hy0, hb, hkp⟩; refine ⟨_, rfl, ?_⟩; have n0_ := Aside0.mk (Kd.R_reok rfl hy0 (fun k_ e_ => HO_12.out.1 k_ e_)); have n1_ := Aside0.mk (Kd.R_mono (ok' := fun k_ => some k_ ≠ (.slice Ao50 t961.length co50 : Value).ownBlock ∧ some k_ ≠ (.slice Ao38 t947.length co38 : Value).ownBlock ∧ some k_ ≠ (.slice Ao46 t957.length co46 : Value).ownBlock ∧ some k_ ≠ (.slice Ao59 t971.length co59 : Value).ownBlock ∧ some k_ ≠ (.slice Ao104 t982.length co104 : Value).ownBlock ∧ some k_ ≠ (.slice Ao107 t986.length co107 : Value).ownBlock ∧ some k_ ≠ (.slice Ao109 t990.length co109 : Value).ownBlock) (Kd.R_keptB (HO_13.out) hkp (fun k_ hk_ hs_ => (hk_.1) hs_)) (fun k_ hk_ => ⟨hk_.1.1, hk_.1.2.1, hk_.1.2.2.1, hk_.1.2.2.2.1, hk_.1.2.2.2.2.1, hk_.1.2.2.2.2.2.1, hk_.1.2.2.2.2.2.2⟩)); have n2_ := Aside0.mk (Kd.R_mono (ok' := fun k_ => some k_ ≠ (.slice Ao45 t954.length co45 : Value).ownBlock ∧ some k_ ≠ (.slice Ao58 t968.length co58 : Value).ownBlock ∧ some k_ ≠ (.slice Ao103 t979.length co103 : Value).ownBlock) (Kd.R_keptB ((Kd.R_apart' HO_953001.out (Kd.R_typed HO_12.out) (by decide))) hkp (fun k_ hk_ hs_ => (hk_.2) hs_)) (fun k_ hk_ => ⟨hk_.1.1.1, hk_.1.1.2.1, hk_.1.1.2.2⟩)); have n3_ := Aside0.mk (Kd.R_mono (ok' := fun k_ => some k_ ≠ (.slice Ao50 t961.length co50 : Value).ownBlock ∧ some k_ ≠ (.slice Ao51 t964.length co51 : Value).ownBlock ∧ some k_ ≠ (.slice Ao46 t957.length co46 : Value).ownBlock ∧ some k_ ≠ (.slice Ao59 t971.length co59 : Value).ownBlock ∧ some k_ ≠ (.slice Ao104 t982.length co104 : Value).ownBlock ∧ some k_ ≠ (.slice Ao107 t986.length co107 : Value).ownBlock ∧ some k_ ≠ (.slice Ao109 t990.length co109 : Value).ownBlock) (Kd.R_keptB (HO_953002.out) hkp (fun k_ hk_ hs_ => (hk_.1) hs_)) (fun k_ hk_ => ⟨hk_.1.1, hk_.1.2.1, hk_.1.2.2.1, hk_.1.2.2.2.1, hk_.1.2.2.2.2.1, hk_.1.2.2.2.2.2.1, hk_.1.2.2.2.2.2.2⟩)); have n4_ := Aside0.mk (Kd.R_mono (ok' := fun k_ => some k_ ≠ (.slice Ao37 t944.length co37 : Value).ownBlock ∧ some k_ ≠ (.slice Ao58 t968.length co58 : Value).ownBlock ∧ some k_ ≠ (.slice Ao103 t979.length co103 : Value).ownBlock) (Kd.R_keptB ((Kd.R_apart' HO_961001.out (Kd.R_typed HO_12.out) (by decide))) hkp (fun k_ hk_ hs_ => (hk_.2) hs_)) (fun k_ hk_ => ⟨hk_.1.1.1.1, hk_.1.1.1.2, hk_.1.1.2⟩)); have n5_ := Aside0.mk (Kd.R_mono (ok' := fun k_ => some k_ ≠ (.slice Ao50 t961.length co50 : Value).ownBlock ∧ some k_ ≠ (.slice Ao51 t964.length co51 : Value).ownBlock ∧ some k_ ≠ (.slice Ao38 t947.length co38 : Value).ownBlock ∧ some k_ ≠ (.slice Ao59 t971.length co59 : Value).ownBlock ∧ some k_ ≠ (.slice Ao104 t982.length co104 : Value).ownBlock ∧ some k_ ≠ (.slice Ao107 t986.length co107 : Value).ownBlock ∧ some k_ ≠ (.slice Ao109 t990.length co109 : Value).ownBlock) (Kd.R_keptB (HO_961002.out) hkp (fun k_ hk_ hs_ => (hk_.1.1.1.1) hs_)) (fun k_ hk_ => ⟨hk_.1.1.1.1.1, hk_.1.1.1.1.2.1, hk_.1.1.1.1.2.2.1, hk_.1.1.1.1.2.2.2, hk_.1.1.1.2, hk_.1.1.2, hk_.1.2⟩)); have n6_ := Aside0.mk (Kd.R_mono (ok' := fun k_ => some k_ ≠ (.slice Ao37 t944.length co37 : Value).ownBlock ∧ some k_ ≠ (.slice Ao45 t954.length co45 : Value).ownBlock ∧ some k_ ≠ (.slice Ao103 t979.length co103 : Value).ownBlock) (Kd.R_keptB ((Kd.R_apart' HO_977001.out (Kd.R_typed HO_12.out) (by decide))) hkp (fun k_ hk_ hs_ => (hk_.2) hs_)) (fun k_ hk_ => ⟨hk_.1.1.1, hk_.1.1.2.1, hk_.1.1.2.2⟩)); have n7_ := Aside0.mk (Kd.R_mono (ok' := fun k_ => some k_ ≠ (.slice Ao50 t961.length co50 : Value).ownBlock ∧ some k_ ≠ (.slice Ao51 t964.length co51 : Value).ownBlock ∧ some k_ ≠ (.slice Ao38 t947.length co38 : Value).ownBlock ∧ some k_ ≠ (.slice Ao46 t957.length co46 : Value).ownBlock ∧ some k_ ≠ (.slice Ao104 t982.length co104 : Value).ownBlock ∧ some k_ ≠ (.slice Ao107 t986.length co107 : Value).ownBlock ∧ some k_ ≠ (.slice Ao109 t990.length co109 : Value).ownBlock) (Kd.R_keptB (HO_977002.out) hkp (fun k_ hk_ hs_ => (hk_.1) hs_)) (fun k_ hk_ => ⟨hk_.1.1, hk_.1.2.1, hk_.1.2.2.1, hk_.1.2.2.2.1, hk_.1.2.2.2.2.1, hk_.1.2.2.2.2.2.1, hk_.1.2.2.2.2.2.2⟩)); have n8_ := Aside0.mk (blk_kept BK928.out hkp (fun hs_ => (fun e_ => (Kd.R_ne HO_12.out BK928.out (by decide)) e_) hs_)); have n9_ := Aside0.mk (blk_kept BK952.out hkp (fun hs_ => (fun e_ => (Kd.R_ne HO_12.out BK952.out (by decide)) e_) hs_)); have n10_ := Aside0.mk (blk_kept BK960.out hkp (fun hs_ => (fun e_ => (Kd.R_ne HO_12.out BK960.out (by decide)) e_) hs_)); have n11_ := Aside0.mk (blk_kept BK976.out hkp (fun hs_ => (fun e_ => (Kd.R_ne HO_12.out BK976.out (by decide)) e_) hs_)); have n12_ := Aside0.mk (Kd.R_mono (ok' := fun k_ => some k_ ≠ (.slice Ao37 t944.length co37 : Value).ownBlock ∧ some k_ ≠ (.slice Ao45 t954.length co45 : Value).ownBlock ∧ some k_ ≠ (.slice Ao58 t968.length co58 : Value).ownBlock) (Kd.R_keptB ((Kd.R_apart' HO981.out (Kd.R_typed HO_12.out) (by decide))) hkp (fun k_ hk_ hs_ => (hk_.2) hs_)) (fun k_ hk_ => ⟨hk_.1.1.1, hk_.1.1.2.1, hk_.1.1.2.2⟩)); have n13_ := Aside0.mk (Kd.R_mono (ok' := fun k_ => some k_ ≠ (.slice Ao50 t961.length co50 : Value).ownBlock ∧ some k_ ≠ (.slice Ao51 t964.length co51 : Value).ownBlock ∧ some k_ ≠ (.slice Ao38 t947.length co38 : Value).ownBlock ∧ some k_ ≠ (.slice Ao46 t957.length co46 : Value).ownBlock ∧ some k_ ≠ (.slice Ao59 t971.length co59 : Value).ownBlock ∧ some k_ ≠ (.slice Ao107 t986.length co107 : Value).ownBlock ∧ some k_ ≠ (.slice Ao109 t990.length co109 : Value).ownBlock) (Kd.R_keptB (HO984.out) hkp (fun k_ hk_ hs_ => (hk_.1) hs_)) (fun k_ hk_ => ⟨hk_.1.1, hk_.1.2.1, hk_.1.2.2.1, hk_.1.2.2.2.1, hk_.1.2.2.2.2.1, hk_.1.2.2.2.2.2.1, hk_.1.2.2.2.2.2.2⟩)); have n14_ := Aside0.mk (Kd.R_mono (ok' := fun k_ => some k_ ≠ (.slice Ao50 t961.length co50 : Value).ownBlock ∧ some k_ ≠ (.slice Ao51 t964.length co51 : Value).ownBlock ∧ some k_ ≠ (.slice Ao38 t947.length co38 : Value).ownBlock ∧ some k_ ≠ (.slice Ao46 t957.length co46 : Value).ownBlock ∧ some k_ ≠ (.slice Ao59 t971.length co59 : Value).ownBlock ∧ some k_ ≠ (.slice Ao104 t982.length co104 : Value).ownBlock ∧ some k_ ≠ (.slice Ao109 t990.length co109 : Value).ownBlock) (Kd.R_keptB (HO988.out) hkp (fun k_ hk_ hs_ => (hk_.1) hs_)) (fun k_ hk_ => ⟨hk_.1.1, hk_.1.2.1, hk_.1.2.2.1, hk_.1.2.2.2.1, hk_.1.2.2.2.2.1, hk_.1.2.2.2.2.2.1, hk_.1.2.2.2.2.2.2⟩)); have n15_ := Aside0.mk (Kd.R_mono (ok' := fun k_ => some k_ ≠ (.slice Ao50 t961.length co50 : Value).ownBlock ∧ some k_ ≠ (.slice Ao51 t964.length co51 : Value).ownBlock ∧ some k_ ≠ (.slice Ao38 t947.length co38 : Value).ownBlock ∧ some k_ ≠ (.slice Ao46 t957.length co46 : Value).ownBlock ∧ some k_ ≠ (.slice Ao59 t971.length co59 : Value).ownBlock ∧ some k_ ≠ (.slice Ao104 t982.length co104 : Value).ownBlock ∧ some k_ ≠ (.slice Ao107 t986.length co107 : Value).ownBlock) (Kd.R_keptB (HO992.out) hkp (fun k_ hk_ hs_ => (hk_.1) hs_)) (fun k_ hk_ => ⟨hk_.1.1, hk_.1.2.1, hk_.1.2.2.1, hk_.1.2.2.2.1, hk_.1.2.2.2.2.1, hk_.1.2.2.2.2.2.1, hk_.1.2.2.2.2.2.2⟩)); have n16_ := Aside0.mk (hb); clear HO_12; clear HO_13; clear HO_953001; clear HO_953002; clear HO_961001; clear HO_961002; clear HO_977001; clear HO_977002; clear BK928; clear BK952; clear BK960; clear BK976; clear HO981; clear HO984; clear HO988; clear HO992; clear HB; have HO_12 := n0_; have HO_13 := n1_; have HO_953001 := n2_; have HO_953002 := n3_; have HO_961001 := n4_; have HO_961002 := n5_; have HO_977001 := n6_; have HO_977002 := n7_; have BK928 := n8_; have BK952 := n9_; have BK960 := n10_; have BK976 := n11_; have HO981 := n12_; have HO984 := n13_; have HO988 := n14_; have HO992 := n15_; have HB := n16_; clear n0_ n1_ n2_ n3_ n4_ n5_ n6_ n7_ n8_ n9_ n10_ n11_ n12_ n13_ n14_ n15_ n16_; (try clear hb); (try clear hkp); (try clear hy0)) | ((with_reducible refine gate_callee (f := 28) rfl ?_); refine goesL_ (some 96) rfl rfl Try.func28 (by kernel_rfl) rfl #[.slice Ao51 t964.length co51, .int .i64 t997] rfl qG ?_; (with_reducible refine (laws_markIntS.calls kj20 (fun k_ => some k_ = (.slice Ao51 t964.length co51 : Value).ownBlock) (.slice Ao51 t964.length co51) t964 t997 t999 t1000 w _ ?side1 ?side2 A99.out).mono ?_); (case side1 => repeat (first | (with_reducible first | exact HB.out | apply below_alloc | apply pw_below_drewN | apply below_drew1 | refine below_set ?_ GE928.out | refine below_set ?_ GE952.out | refine below_set ?_ GE960.out | refine below_set ?_ GE976.out) | exact HB.out)); (case side2 => exact Kd.R_tight rfl HO_13.out); rintro e w116 ⟨rfl, hy0, hb, hkp⟩; refine ⟨_, rfl, ?_⟩; have n0_ := Aside0.mk (Kd.R_mono (ok' := fun k_ => some k_ ≠ (.slice Ao51 t964.length co51 : Value).ownBlock ∧ some k_ ≠ (.slice Ao38 t947.length co38 : Value).ownBlock ∧ some k_ ≠ (.slice Ao46 t957.length co46 : Value).ownBlock ∧ some k_ ≠ (.slice Ao59 t971.length co59 : Value).ownBlock ∧ some k_ ≠ (.slice Ao104 t982.length co104 : Value).ownBlock ∧ some k_ ≠ (.slice Ao107 t986.length co107 : Value).ownBlock ∧ some k_ ≠ (.slice Ao109 t990.length co109 : Value).ownBlock) (Kd.R_keptB (HO_12.out) hkp (fun k_ hk_ hs_ => (hk_.1) hs_)) (fun k_ hk_ => ⟨hk_.1.1, hk_.1.2.1, hk_.1.2.2.1, hk_.1.2.2.2.1, hk_.1.2.2.2.2.1, hk_.1.2.2.2.2.2.1, hk_.1.2.2.2.2.2.2⟩)); have n1_ := Aside0.mk (Kd.R_reok rfl hy0 (fun k_ e_ => HO_13.out.1 k_ e_)); have n2_ := Aside0.mk (Kd.R_mono (ok' := fun k_ => some k_ ≠ (.slice Ao45 t954.length co45 : Value).ownBlock ∧ some k_ ≠ (.slice Ao58 t968.length co58 : Value).ownBlock ∧ some k_ ≠ (.slice Ao103 t979.length co103 : Value).ownBlock) (Kd.R_keptB ((Kd.R_apart' HO_953001.out (Kd.R_typed HO_13.out) (by decide))) hkp (fun k_ hk_ hs_ => (hk_.2) hs_)) (fun k_ hk_ => ⟨hk_.1.1.1, hk_.1.1.2.1, hk_.1.1.2.2⟩)); have n3_ := Aside0.mk (Kd.R_mono (ok' := fun k_ => some k_ ≠ (.slice Ao50 t961.length co50 : Value).ownBlock ∧ some k_ ≠ (.slice Ao51 t964.length co51 : Value).ownBlock ∧ some k_ ≠ (.slice Ao46 t957.length co46 : Value).ownBlock ∧ some k_ ≠ (.slice Ao59 t971.length co59 : Value).ownBlock ∧ some k_ ≠ (.slice Ao104 t982.length co104 : Value).ownBlock ∧ some k_ ≠ (.slice Ao107 t986.length co107 : Value).ownBlock ∧ some k_ ≠ (.slice Ao109 t990.length co109 : Value).ownBlock) (Kd.R_keptB (HO_953002.out) hkp (fun k_ hk_ hs_ => (hk_.2.1) hs_)) (fun k_ hk_ => ⟨hk_.1.1, hk_.1.2.1, hk_.1.2.2.1, hk_.1.2.2.2.1, hk_.1.2.2.2.2.1, hk_.1.2.2.2.2.2.1, hk_.1.2.2.2.2.2.2⟩)); have n4_ := Aside0.mk (Kd.R_mono (ok' := fun k_ => some k_ ≠ (.slice Ao37 t944.length co37 : Value).ownBlock ∧ some k_ ≠ (.slice Ao58 t968.length co58 : Value).ownBlock ∧ some k_ ≠ (.slice Ao103 t979.length co103 : Value).ownBlock) (Kd.R_keptB ((Kd.R_apart' HO_961001.out (Kd.R_typed HO_13.out) (by decide))) hkp (fun k_ hk_ hs_ => (hk_.2) hs_)) (fun k_ hk_ => ⟨hk_.1.1.1, hk_.1.1.2.1, hk_.1.1.2.2⟩)); have n5_ := Aside0.mk (Kd.R_mono (ok' := fun k_ => some k_ ≠ (.slice Ao50 t961.length co50 : Value).ownBlock ∧ some k_ ≠ (.slice Ao51 t964.length co51 : Value).ownBlock ∧ some k_ ≠ (.slice Ao38 t947.length co38 : Value).ownBlock ∧ some k_ ≠ (.slice Ao59 t971.length co59 : Value).ownBlock ∧ some k_ ≠ (.slice Ao104 t982.length co104 : Value).ownBlock ∧ some k_ ≠ (.slice Ao107 t986.length co107 : Value).ownBlock ∧ some k_ ≠ (.slice Ao109 t990.length co109 : Value).ownBlock) (Kd.R_keptB (HO_961002.out) hkp (fun k_ hk_ hs_ => (hk_.2.1) hs_)) (fun k_ hk_ => ⟨hk_.1.1, hk_.1.2.1, hk_.1.2.2.1, hk_.1.2.2.2.1, hk_.1.2.2.2.2.1, hk_.1.2.2.2.2.2.1, hk_.1.2.2.2.2.2.2⟩)); have n6_ := Aside0.mk (Kd.R_mono (ok' := fun k_ => some k_ ≠ (.slice Ao37 t944.length co37 : Value).ownBlock ∧ some k_ ≠ (.slice Ao45 t954.length co45 : Value).ownBlock ∧ some k_ ≠ (.slice Ao103 t979.length co103 : Value).ownBlock) (Kd.R_keptB ((Kd.R_apart' HO_977001.out (Kd.R_typed HO_13.out) (by decide))) hkp (fun k_ hk_ hs_ => (hk_.2) hs_)) (fun k_ hk_ => ⟨hk_.1.1.1, hk_.1.1.2.1, hk_.1.1.2.2⟩)); have n7_ := Aside0.mk (Kd.R_mono (ok' := fun k_ => some k_ ≠ (.slice Ao50 t961.length co50 : Value).ownBlock ∧ some k_ ≠ (.slice Ao51 t964.length co51 : Value).ownBlock ∧ some k_ ≠ (.slice Ao38 t947.length co38 : Value).ownBlock ∧ some k_ ≠ (.slice Ao46 t957.length co46 : Value).ownBlock ∧ some k_ ≠ (.slice Ao104 t982.length co104 : Value).ownBlock ∧ some k_ ≠ (.slice Ao107 t986.length co107 : Value).ownBlock ∧ some k_ ≠ (.slice Ao109 t990.length co109 : Value).ownBlock) (Kd.R_keptB (HO_977002.out) hkp (fun k_ hk_ hs_ => (hk_.2.1) hs_)) (fun k_ hk_ => ⟨hk_.1.1, hk_.1.2.1, hk_.1.2.2.1, hk_.1.2.2.2.1, hk_.1.2.2.2.2.1, hk_.1.2.2.2.2.2.1, hk_.1.2.2.2.2.2.2⟩)); have n8_ := Aside0.mk (blk_kept BK928.out hkp (fun hs_ => (fun e_ => (Kd.R_ne HO_13.out BK928.out (by decide)) e_) hs_)); have n9_ := Aside0.mk (blk_kept BK952.out hkp (fun hs_ => (fun e_ => (Kd.R_ne HO_13.out BK952.out (by decide)) e_) hs_)); have n10_ := Aside0.mk (blk_kept BK960.out hkp (fun hs_ => (fun e_ => (Kd.R_ne HO_13.out BK960.out (by decide)) e_) hs_)); have n11_ := Aside0.mk (blk_kept BK976.out hkp (fun hs_ => (fun e_ => (Kd.R_ne HO_13.out BK976.out (by decide)) e_) hs_)); have n12_ := Aside0.mk (Kd.R_mono (ok' := fun k_ => some k_ ≠ (.slice Ao37 t944.length co37 : Value).ownBlock ∧ some k_ ≠ (.slice Ao45 t954.length co45 : Value).ownBlock ∧ some k_ ≠ (.slice Ao58 t968.length co58 : Value).ownBlock) (Kd.R_keptB ((Kd.R_apart' HO981.out (Kd.R_typed HO_13.out) (by decide))) hkp (fun k_ hk_ hs_ => (hk_.2) hs_)) (fun k_ hk_ => ⟨hk_.1.1.1, hk_.1.1.2.1, hk_.1.1.2.2⟩)); have n13_ := Aside0.mk (Kd.R_mono (ok' := fun k_ => some k_ ≠ (.slice Ao50 t961.length co50 : Value).ownBlock ∧ some k_ ≠ (.slice Ao51 t964.length co51 : Value).ownBlock ∧ some k_ ≠ (.slice Ao38 t947.length co38 : Value).ownBlock ∧ some k_ ≠ (.slice Ao46 t957.length co46 : Value).ownBlock ∧ some k_ ≠ (.slice Ao59 t971.length co59 : Value).ownBlock ∧ some k_ ≠ (.slice Ao107 t986.length co107 : Value).ownBlock ∧ some k_ ≠ (.slice Ao109 t990.length co109 : Value).ownBlock) (Kd.R_keptB (HO984.out) hkp (fun k_ hk_ hs_ => (hk_.2.1) hs_)) (fun k_ hk_ => ⟨hk_.1.1, hk_.1.2.1, hk_.1.2.2.1, hk_.1.2.2.2.1, hk_.1.2.2.2.2.1, hk_.1.2.2.2.2.2.1, hk_.1.2.2.2.2.2.2⟩)); have n14_ := Aside0.mk (Kd.R_mono (ok' := fun k_ => some k_ ≠ (.slice Ao50 t961.length co50 : Value).ownBlock ∧ some k_ ≠ (.slice Ao51 t964.length co51 : Value).ownBlock ∧ some k_ ≠ (.slice Ao38 t947.length co38 : Value).ownBlock ∧ some k_ ≠ (.slice Ao46 t957.length co46 : Value).ownBlock ∧ some k_ ≠ (.slice Ao59 t971.length co59 : Value).ownBlock ∧ some k_ ≠ (.slice Ao104 t982.length co104 : Value).ownBlock ∧ some k_ ≠ (.slice Ao109 t990.length co109 : Value).ownBlock) (Kd.R_keptB (HO988.out) hkp (fun k_ hk_ hs_ => (hk_.2.1) hs_)) (fun k_ hk_ => ⟨hk_.1.1, hk_.1.2.1, hk_.1.2.2.1, hk_.1.2.2.2.1, hk_.1.2.2.2.2.1, hk_.1.2.2.2.2.2.1, hk_.1.2.2.2.2.2.2⟩)); have n15_ := Aside0.mk (Kd.R_mono (ok' := fun k_ => some k_ ≠ (.slice Ao50 t961.length co50 : Value).ownBlock ∧ some k_ ≠ (.slice Ao51 t964.length co51 : Value).ownBlock ∧ some k_ ≠ (.slice Ao38 t947.length co38 : Value).ownBlock ∧ some k_ ≠ (.slice Ao46 t957.length co46 : Value).ownBlock ∧ some k_ ≠ (.slice Ao59 t971.length co59 : Value).ownBlock ∧ some k_ ≠ (.slice Ao104 t982.length co104 : Value).ownBlock ∧ some k_ ≠ (.slice Ao107 t986.length co107 : Value).ownBlock) (Kd.R_keptB (HO992.out) hkp (fun k_ hk_ hs_ => (hk_.2.1) hs_)) (fun k_ hk_ => ⟨hk_.1.1, hk_.1.2.1, hk_.1.2.2.1, hk_.1.2.2.2.1, hk_.1.2.2.2.2.1, hk_.1.2.2.2.2.2.1, hk_.1.2.2.2.2.2.2⟩)); have n16_ := Aside0.mk (hb); clear HO_12; clear HO_13; clear HO_953001; clear HO_953002; clear HO_961001; clear HO_961002; clear HO_977001; clear HO_977002; clear BK928; clear BK952; clear BK960; clear BK976; clear HO981; clear HO984; clear HO988; clear HO992; clear HB; have HO_12 := n0_; have HO_13 := n1_; have HO_953001 := n2_; have HO_953002 := n3_; have HO_961001 := n4_; have HO_961002 := n5_; have HO_977001 := n6_; have HO_977002 := n7_; have BK928 := n8_; have BK952 := n9_; have BK960 := n10_; have BK976 := n11_; have HO981 := n12_; have HO984 := n13_; have HO988 := n14_; have HO992 := n15_; have HB := n16_; clear n0_ n1_ n2_ n3_ n4_ n5_ n6_ n7_ n8_ n9_ n10_ n11_ n12_ n13_ n14_ n15_ n16_; (try clear hb); (try clear hkp); (try clear hy0)))
          (try simp only [Act.put, List.setIfInBounds_toArray, List.set_cons_zero, List.set_cons_succ])
          go_cut [114] (fun v114 wc => ∃ (kq : Nat) (x114_99 : Bool), v114 = .bool x114_99 ∧ Aside0 (laws_FnExactEqGates.j1 kq l1 l2 t950 t951 x114_99 a0_0 l0_1 l0_2 t943 t944 t947 t967 t968 t971 = some true) ∧ Aside0 (kq ≤ kj20) ∧ Aside0 (Kd.R k59 59 wc w.heap.size (fun k_ => some k_ ≠ ((.slice Ao45 t954.length co45) : Value).ownBlock ∧ some k_ ≠ ((.slice Ao58 t968.length co58) : Value).ownBlock) (.slice Ao37 t944.length co37) t944) ∧ Aside0 (Kd.R (Kd.int .i64) 3 wc w.heap.size (fun k_ => some k_ ≠ ((.slice Ao46 t957.length co46) : Value).ownBlock ∧ some k_ ≠ ((.slice Ao59 t971.length co59) : Value).ownBlock) (.slice Ao38 t947.length co38) t947) ∧ Aside0 (Kd.R k59 59 wc w.heap.size (fun k_ => some k_ ≠ ((.slice Ao37 t944.length co37) : Value).ownBlock ∧ some k_ ≠ ((.slice Ao58 t968.length co58) : Value).ownBlock) (.slice Ao45 t954.length co45) t995) ∧ Aside0 (Kd.R (Kd.int .i64) 3 wc w.heap.size (fun k_ => some k_ ≠ ((.slice Ao38 t947.length co38) : Value).ownBlock ∧ some k_ ≠ ((.slice Ao59 t971.length co59) : Value).ownBlock) (.slice Ao46 t957.length co46) t996) ∧ Aside0 (Kd.R k59 59 wc w.heap.size (fun k_ => some k_ ≠ ((.slice Ao37 t944.length co37) : Value).ownBlock ∧ some k_ ≠ ((.slice Ao45 t954.length co45) : Value).ownBlock) (.slice Ao58 t968.length co58) t968) ∧ Aside0 (Kd.R (Kd.int .i64) 3 wc w.heap.size (fun k_ => some k_ ≠ ((.slice Ao38 t947.length co38) : Value).ownBlock ∧ some k_ ≠ ((.slice Ao46 t957.length co46) : Value).ownBlock) (.slice Ao59 t971.length co59) t971) ∧ Aside0 (wc.heap[gb928]? = some (.cells #[.int .i64 a0_0, (.slice A0_1 l0_1.length c0_1), (.slice A0_2 l0_2.length c0_2)] 25 (0, 0))) ∧ Aside0 (wc.heap[gb952]? = some (.cells #[.int .i64 t943, (.slice Ao37 t944.length co37), (.slice Ao38 t947.length co38)] 30 (0, 0))) ∧ Aside0 (wc.heap[gb960]? = some (.cells #[.int .i64 t953, (.slice Ao45 t954.length co45), (.slice Ao46 t957.length co46)] 30 (0, 0))) ∧ Aside0 (wc.heap[gb976]? = some (.cells #[.int .i64 t967, (.slice Ao58 t968.length co58), (.slice Ao59 t971.length co59)] 30 (0, 0))) ∧ Aside0 (Below w.heap.size w wc))
          case first =>
           have H := HC100.out
           clear HC100
           by_cases c117 : t999 < 0
           ·rw [if_pos c117] at H
            exact absurd H (by cases kj20 <;> simp [laws_FnExactEqGates.j1])
           ·rw [if_neg c117] at H
            have c117b0 : decide (t999 < 0) = false := decide_eq_false c117
            clear c117
            (first | rw [c117b0] | (simp only [i64_w, i32_w]; rw [c117b0]) | skip)
            replace H := Option.bind_eq_some_iff.mp H
            obtain ⟨t1001, A1180, H⟩ := H
            replace H : (if t1001 = true then (if t974 = t950 then (laws_FnExactEqGates.j1 kj20 l1 l2 t950 t951 (t975 != t951) a0_0 l0_1 l0_2 t943 t944 t947 t967 t968 t971) else (laws_FnExactEqGates.j1 kj20 l1 l2 t950 t951 true a0_0 l0_1 l0_2 t943 t944 t947 t967 t968 t971)) else (laws_FnExactEqGates.j1 kj20 l1 l2 t950 t951 true a0_0 l0_1 l0_2 t943 t944 t947 t967 t968 t971)) = some true := H
            have A118 := Aside0.mk A1180
            clear A1180
            by_cases c119 : t1001 = true
            ·subst c119
             have H1 : (if t974 = t950 then (laws_FnExactEqGates.j1 kj20 l1 l2 t950 t951 (t975 != t951) a0_0 l0_1 l0_2 t943 t944 t947 t967 t968 t971) else (laws_FnExactEqGates.j1 kj20 l1 l2 t950 t951 true a0_0 l0_1 l0_2 t943 t944 t947 t967 t968 t971)) = some true := by rw [if_pos rfl] at H; exact H
             clear H
             have H := H1
             clear H1
             by_cases c120 : t974 = t950
             ·rw [if_pos c120] at H
              have c120b0 : (t974 == t950) = true := beq_iff_eq.mpr c120
              have c120b1 : (t974 != t950) = false := bne_eq_false_iff_eq.mpr c120
              clear c120
              have H' := Aside0.mk H
              clear H
              have hnb121 := NB976_928.out
              have hnc121 := NB928_976.out
              have hnb122 := NB976_952.out
              have hnc122 := NB952_976.out
              have hnb123 := NB976_960.out
              have hnc123 := NB960_976.out
              have hcz124_0 : w116.cell? ⟨gb976, 0, none⟩ = some (.int .i64 t967) := (blk_cell BK976.out 0).trans rfl
              have hcz124_1 : w116.cell? ⟨gb976, 1, none⟩ = some (.slice Ao58 t968.length co58) := (blk_cell BK976.out 1).trans rfl
              have hcz124_2 : w116.cell? ⟨gb976, 2, none⟩ = some (.slice Ao59 t971.length co59) := (blk_cell BK976.out 2).trans rfl
              have hfz124_0 := blk_frozen BK976.out 0
              have hfz124_1 := blk_frozen BK976.out 1
              have hfz124_2 := blk_frozen BK976.out 2
              have hnb125 := NB952_928.out
              have hnc125 := NB928_952.out
              have hnb126 := NB952_960.out
              have hnc126 := NB960_952.out
              have hcz127_0 : w116.cell? ⟨gb952, 0, none⟩ = some (.int .i64 t943) := (blk_cell BK952.out 0).trans rfl
              have hcz127_1 : w116.cell? ⟨gb952, 1, none⟩ = some (.slice Ao37 t944.length co37) := (blk_cell BK952.out 1).trans rfl
              have hcz127_2 : w116.cell? ⟨gb952, 2, none⟩ = some (.slice Ao38 t947.length co38) := (blk_cell BK952.out 2).trans rfl
              have hfz127_0 := blk_frozen BK952.out 0
              have hfz127_1 := blk_frozen BK952.out 1
              have hfz127_2 := blk_frozen BK952.out 2
              go_wp2_with (first | (go_at_call 15; (with_reducible refine (laws_eqCircuit.calls kj20 t967 _ _ t968 _ _ t971 t943 _ _ t944 _ _ t947 true _ ?side1 ?side2 ?side3 ?side4 ?side5 ?side6 ?side7 ?side8 A118.out).mono ?_); (case side1 => repeat (first | exact (Kd.R_reads' HO_977001.out).2.2 | (with_reducible refine Kd.C_alloc ?_ _) | (with_reducible refine Kd.C_drewN ?_ _) | (with_reducible refine Kd.C_drew ?_))); (case side2 => exact (Kd.R_reads' HO_977001.out).2.1); (case side3 => repeat (first | exact (Kd.R_reads' HO_977002.out).2.2 | (with_reducible refine Kd.C_alloc ?_ _) | (with_reducible refine Kd.C_drewN ?_ _) | (with_reducible refine Kd.C_drew ?_))); (case side4 => exact (Kd.R_reads' HO_977002.out).2.1); (case side5 => repeat (first | exact (Kd.R_reads' HO_953001.out).2.2 | (with_reducible refine Kd.C_alloc ?_ _) | (with_reducible refine Kd.C_drewN ?_ _) | (with_reducible refine Kd.C_drew ?_))); (case side6 => exact (Kd.R_reads' HO_953001.out).2.1); (case side7 => repeat (first | exact (Kd.R_reads' HO_953002.out).2.2 | (with_reducible refine Kd.C_alloc ?_ _) | (with_reducible refine Kd.C_drewN ?_ _) | (with_reducible refine Kd.C_drew ?_))); (case side8 => exact (Kd.R_reads' HO_953002.out).2.1); rintro e w128 ⟨rfl, hb⟩; have n0_ := Aside0.mk (Kd.R_below (qR HO_12.out) hb); have n1_ := Aside0.mk (Kd.R_below (qR HO_13.out) hb); have n2_ := Aside0.mk (Kd.R_below (qR HO_953001.out) hb); have n3_ := Aside0.mk (Kd.R_below (qR HO_953002.out) hb); have n4_ := Aside0.mk (Kd.R_below (qR HO_961001.out) hb); have n5_ := Aside0.mk (Kd.R_below (qR HO_961002.out) hb); have n6_ := Aside0.mk (Kd.R_below (qR HO_977001.out) hb); have n7_ := Aside0.mk (Kd.R_below (qR HO_977002.out) hb); have n8_ := Aside0.mk (Kd.R_below (qR HO981.out) hb); have n9_ := Aside0.mk (Kd.R_below (qR HO984.out) hb); have n10_ := Aside0.mk (Kd.R_below (qR HO988.out) hb); have n11_ := Aside0.mk (Kd.R_below (qR HO992.out) hb); have n12_ := Aside0.mk (blk_below (g := gb928) (o := .cells #[.int .i64 a0_0, .slice A0_1 l0_1.length c0_1, .slice A0_2 l0_2.length c0_2] 25 (0, 0)) (qK BK928.out) hb); have n13_ := Aside0.mk (blk_below (g := gb952) (o := .cells #[.int .i64 t943, .slice Ao37 t944.length co37, .slice Ao38 t947.length co38] 30 (0, 0)) (qK BK952.out) hb); have n14_ := Aside0.mk (blk_below (g := gb960) (o := .cells #[.int .i64 t953, .slice Ao45 t954.length co45, .slice Ao46 t957.length co46] 30 (0, 0)) (qK BK960.out) hb); have n15_ := Aside0.mk (blk_below (g := gb976) (o := .cells #[.int .i64 t967, .slice Ao58 t968.length co58, .slice Ao59 t971.length co59] 30 (0, 0)) (qK BK976.out) hb); have n16_ := Aside0.mk (below_step (qB) hb); clear HO_12; clear HO_13; clear HO_953001; clear HO_953002; clear HO_961001; clear HO_961002; clear HO_977001; clear HO_977002; clear HO981; clear HO984; clear HO988; clear HO992; clear BK928; clear BK952; clear BK960; clear BK976; clear HB; have HO_12 := n0_; have HO_13 := n1_; have HO_953001 := n2_; have HO_953002 := n3_; have HO_961001 := n4_; have HO_961002 := n5_; have HO_977001 := n6_; have HO_977002 := n7_; have HO981 := n8_; have HO984 := n9_; have HO988 := n10_; have HO992 := n11_; have BK928 := n12_; have BK952 := n13_; have BK960 := n14_; have BK976 := n15_; have HB := n16_; clear n0_ n1_ n2_ n3_ n4_ n5_ n6_ n7_ n8_ n9_ n10_ n11_ n12_ n13_ n14_ n15_ n16_; (try clear hb); (try clear hb2); (try clear hk); (try clear hi)))
              go_meet
              case rel => exact ⟨_, ((t975 != t951)), qS, H', ⟨by have := HJ20.out; first | omega | exact Nat.le_refl _⟩, ⟨by (with_reducible repeat (first | apply Kd.R_alloc | apply Kd.R_drewN | apply Kd.R_drew)); exact Kd.R_mono HO_953001.out (fun _ hk => ⟨hk.1, hk.2.1⟩)⟩, ⟨by (with_reducible repeat (first | apply Kd.R_alloc | apply Kd.R_drewN | apply Kd.R_drew)); exact Kd.R_mono HO_953002.out (fun _ hk => ⟨hk.2.2.1, hk.2.2.2.1⟩)⟩, ⟨by (with_reducible repeat (first | apply Kd.R_alloc | apply Kd.R_drewN | apply Kd.R_drew)); exact Kd.R_mono HO_961001.out (fun _ hk => ⟨hk.1, hk.2.1⟩)⟩, ⟨by (with_reducible repeat (first | apply Kd.R_alloc | apply Kd.R_drewN | apply Kd.R_drew)); exact Kd.R_mono HO_961002.out (fun _ hk => ⟨hk.2.2.1, hk.2.2.2.1⟩)⟩, ⟨by (with_reducible repeat (first | apply Kd.R_alloc | apply Kd.R_drewN | apply Kd.R_drew)); exact Kd.R_mono HO_977001.out (fun _ hk => ⟨hk.1, hk.2.1⟩)⟩, ⟨by (with_reducible repeat (first | apply Kd.R_alloc | apply Kd.R_drewN | apply Kd.R_drew)); exact Kd.R_mono HO_977002.out (fun _ hk => ⟨hk.2.2.1, hk.2.2.2.1⟩)⟩, ⟨by exact qK BK928.out⟩, ⟨by exact qK BK952.out⟩, ⟨by exact qK BK960.out⟩, ⟨by exact qK BK976.out⟩, ⟨qB⟩⟩
             ·rw [if_neg c120] at H
              exact absurd H (by cases kj20 <;> simp [laws_FnExactEqGates.j1])
            ·replace c119 := Bool.eq_false_iff.mpr c119
             subst c119
             have H1 : (laws_FnExactEqGates.j1 kj20 l1 l2 t950 t951 true a0_0 l0_1 l0_2 t943 t944 t947 t967 t968 t971) = some true := by rw [if_neg (show ¬ (false = true) by decide)] at H; exact H
             exact absurd H1 (by cases kj20 <;> simp [laws_FnExactEqGates.j1])
          case rest =>
           clear HC100
           try clear c1
           try clear c2
           try clear p2
           try clear c3
           try clear c4
           try clear c4b0
           try clear c4b1
           try clear c5
           try clear c6
           try clear c6b0
           try clear c6b1
           try clear c7
           try clear c8
           try clear c9
           try clear c9b0
           try clear c10
           try clear c11
           try clear c12
           try clear c13
           try clear c14
           try clear c15
           try clear c20
           try clear c27
           try clear c28
           try clear c34
           try clear c35
           try clear c38
           try clear c39
           try clear c42
           try clear c43
           try clear c54
           try clear c55
           try clear c56
           try clear c61
           try clear c62
           try clear c62b0
           try clear c62b1
           try clear c63
           try clear c64
           try clear c65
           try clear c67
           try clear c68
           try clear c71
           try clear c72
           try clear c73
           try clear c75
           try clear c76
           try clear c79
           try clear c80
           try clear c81
           try clear c83
           try clear c84
           try clear c87
           try clear c90
           try clear c93
           try clear c96
           try clear c110
           try clear c111
           try clear c112
           try clear c117
           try clear c117b0
           try clear c119
           try clear c120
           try clear c120b0
           try clear c120b1
           try clear c121
           try clear c122
           try clear c123
           try clear c125
           try clear c126
           try clear c129
           try clear c130
           try clear c131
           try clear c133
           try clear c134
           try clear c137
           try clear c138
           try clear c139
           try clear c141
           try clear c142
           try clear hcz113_0
           try clear hcz113_1
           try clear hcz113_2
           try clear hcz11_0
           try clear hcz11_1
           try clear hcz11_2
           try clear hcz124_0
           try clear hcz124_1
           try clear hcz124_2
           try clear hcz127_0
           try clear hcz127_1
           try clear hcz127_2
           try clear hcz132_0
           try clear hcz132_1
           try clear hcz132_2
           try clear hcz135_0
           try clear hcz135_1
           try clear hcz135_2
           try clear hcz140_0
           try clear hcz140_1
           try clear hcz140_2
           try clear hcz143_0
           try clear hcz143_1
           try clear hcz143_2
           try clear hcz23_0
           try clear hcz23_1
           try clear hcz23_2
           try clear hcz25_0
           try clear hcz25_1
           try clear hcz25_2
           try clear hcz36_0
           try clear hcz36_1
           try clear hcz36_2
           try clear hcz39_0
           try clear hcz39_1
           try clear hcz39_2
           try clear hcz44_0
           try clear hcz44_1
           try clear hcz44_2
           try clear hcz49_0
           try clear hcz49_1
           try clear hcz49_2
           try clear hcz57_0
           try clear hcz57_1
           try clear hcz57_2
           try clear hcz66_0
           try clear hcz66_1
           try clear hcz66_2
           try clear hcz69_0
           try clear hcz69_1
           try clear hcz69_2
           try clear hcz74_0
           try clear hcz74_1
           try clear hcz74_2
           try clear hcz77_0
           try clear hcz77_1
           try clear hcz77_2
           try clear hcz82_0
           try clear hcz82_1
           try clear hcz82_2
           try clear hcz85_0
           try clear hcz85_1
           try clear hcz85_2
           try clear hfz113_0
           try clear hfz113_1
           try clear hfz113_2
           try clear hfz11_0
           try clear hfz11_1
           try clear hfz11_2
           try clear hfz124_0
           try clear hfz124_1
           try clear hfz124_2
           try clear hfz127_0
           try clear hfz127_1
           try clear hfz127_2
           try clear hfz132_0
           try clear hfz132_1
           try clear hfz132_2
           try clear hfz135_0
           try clear hfz135_1
           try clear hfz135_2
           try clear hfz140_0
           try clear hfz140_1
           try clear hfz140_2
           try clear hfz143_0
           try clear hfz143_1
           try clear hfz143_2
           try clear hfz23_0
           try clear hfz23_1
           try clear hfz23_2
           try clear hfz25_0
           try clear hfz25_1
           try clear hfz25_2
           try clear hfz36_0
           try clear hfz36_1
           try clear hfz36_2
           try clear hfz39_0
           try clear hfz39_1
           try clear hfz39_2
           try clear hfz44_0
           try clear hfz44_1
           try clear hfz44_2
           try clear hfz49_0
           try clear hfz49_1
           try clear hfz49_2
           try clear hfz57_0
           try clear hfz57_1
           try clear hfz57_2
           try clear hfz66_0
           try clear hfz66_1
           try clear hfz66_2
           try clear hfz69_0
           try clear hfz69_1
           try clear hfz69_2
           try clear hfz74_0
           try clear hfz74_1
           try clear hfz74_2
           try clear hfz77_0
           try clear hfz77_1
           try clear hfz77_2
           try clear hfz82_0
           try clear hfz82_1
           try clear hfz82_2
           try clear hfz85_0
           try clear hfz85_1
           try clear hfz85_2
           try clear p2
           obtain ⟨kq, x114_99, rfl, HA, HJ99, HO_953001, HO_953002, HO_961001, HO_961002, HO_977001, HO_977002, BK928, BK952, BK960, BK976, HB⟩ := hcut
           have hl961001_99 := (Kd.R_reads' HO_961001.out).1
           rw [hl961001_99] at HO_961001
           (try simp only [hl961001_99])
           (try simp only [hl961001_99] at BK928)
           (try simp only [hl961001_99] at BK952)
           (try simp only [hl961001_99] at BK960)
           (try simp only [hl961001_99] at BK976)
           (try simp only [hl961001_99] at HO_953001)
           (try simp only [hl961001_99] at HO_953002)
           (try simp only [hl961001_99] at HO_961002)
           (try simp only [hl961001_99] at HO_977001)
           (try simp only [hl961001_99] at HO_977002)
           have hl961002_99 := (Kd.R_reads' HO_961002.out).1
           rw [hl961002_99] at HO_961002
           (try simp only [hl961002_99])
           (try simp only [hl961002_99] at BK928)
           (try simp only [hl961002_99] at BK952)
           (try simp only [hl961002_99] at BK960)
           (try simp only [hl961002_99] at BK976)
           (try simp only [hl961002_99] at HO_953001)
           (try simp only [hl961002_99] at HO_953002)
           (try simp only [hl961002_99] at HO_961001)
           (try simp only [hl961002_99] at HO_977001)
           (try simp only [hl961002_99] at HO_977002)
           cases kq with
           | zero => exact absurd HA.out (by simp [laws_FnExactEqGates.j1])
           | succ kj99 =>
            have H := HA.out
            clear HA
            simp only [laws_FnExactEqGates.j1] at H
            by_cases c145 : x114_99 = true
            ·subst c145
             have H1 : (some false) = some true := by rw [if_pos rfl] at H; exact H
             exact absurd H1 (by simp)
            ·replace c145 := Bool.eq_false_iff.mpr c145
             subst c145
             have H1 : ((laws_markCircuit.f kj99 t967 t968 t971 1).bind fun bt1002 => ((laws_heldCircuit.f kj99 t967 bt1002.2.1 bt1002.2.2 1).bind fun t1005 => (if t1005 < 0 then (some false) else (if t1005 = bt1002.1 then ((laws_toCircuit.f kj99 a0_0 l0_1 l0_2).bind fun bt1006 => ((laws_toIntS.f kj99 l1).bind fun t1013 => ((laws_toIntS.f kj99 l2).bind fun t1016 => ((impl_EqGates.f kj99 bt1006.1 bt1006.2.1 bt1006.2.2 t1013 t1016).bind fun bt1019 => ((laws_eqCircuit.f kj99 bt1019.1 bt1019.2.1 bt1019.2.2.1 t943 t944 t947).bind fun t1029 => (if t1029 = true then (if bt1019.2.2.2.1 = t950 then (laws_FnExactEqGates.j2 kj99 bt1002.1 (bt1019.2.2.2.2 != t951) t967 bt1002.2.1 bt1002.2.2) else (laws_FnExactEqGates.j2 kj99 bt1002.1 true t967 bt1002.2.1 bt1002.2.2)) else (laws_FnExactEqGates.j2 kj99 bt1002.1 true t967 bt1002.2.1 bt1002.2.2))))))) else (some false))))) = some true := by rw [if_neg (show ¬ (false = true) by decide)] at H; exact H
             clear H
             have H := H1
             clear H1
             replace H := Option.bind_eq_some_iff.mp H
             obtain ⟨⟨t1002, t1003, t1004⟩, A1460, H⟩ := H
             replace H : ((laws_heldCircuit.f kj99 t967 t1003 t1004 1).bind fun t1005 => (if t1005 < 0 then (some false) else (if t1005 = t1002 then ((laws_toCircuit.f kj99 a0_0 l0_1 l0_2).bind fun bt1006 => ((laws_toIntS.f kj99 l1).bind fun t1013 => ((laws_toIntS.f kj99 l2).bind fun t1016 => ((impl_EqGates.f kj99 bt1006.1 bt1006.2.1 bt1006.2.2 t1013 t1016).bind fun bt1019 => ((laws_eqCircuit.f kj99 bt1019.1 bt1019.2.1 bt1019.2.2.1 t943 t944 t947).bind fun t1029 => (if t1029 = true then (if bt1019.2.2.2.1 = t950 then (laws_FnExactEqGates.j2 kj99 t1002 (bt1019.2.2.2.2 != t951) t967 t1003 t1004) else (laws_FnExactEqGates.j2 kj99 t1002 true t967 t1003 t1004)) else (laws_FnExactEqGates.j2 kj99 t1002 true t967 t1003 t1004))))))) else (some false)))) = some true := H
             have A146 := Aside0.mk A1460
             clear A1460
             replace H := Option.bind_eq_some_iff.mp H
             obtain ⟨t1005, A1470, H⟩ := H
             replace H : (if t1005 < 0 then (some false) else (if t1005 = t1002 then ((laws_toCircuit.f kj99 a0_0 l0_1 l0_2).bind fun bt1006 => ((laws_toIntS.f kj99 l1).bind fun t1013 => ((laws_toIntS.f kj99 l2).bind fun t1016 => ((impl_EqGates.f kj99 bt1006.1 bt1006.2.1 bt1006.2.2 t1013 t1016).bind fun bt1019 => ((laws_eqCircuit.f kj99 bt1019.1 bt1019.2.1 bt1019.2.2.1 t943 t944 t947).bind fun t1029 => (if t1029 = true then (if bt1019.2.2.2.1 = t950 then (laws_FnExactEqGates.j2 kj99 t1002 (bt1019.2.2.2.2 != t951) t967 t1003 t1004) else (laws_FnExactEqGates.j2 kj99 t1002 true t967 t1003 t1004)) else (laws_FnExactEqGates.j2 kj99 t1002 true t967 t1003 t1004))))))) else (some false))) = some true := H
             have A147 := Aside0.mk A1470
             clear A1470
             by_cases c148 : t1005 < 0
             ·rw [if_pos c148] at H
              exact absurd H (by simp)
             ·rw [if_neg c148] at H
              have c148b0 : decide (t1005 < 0) = false := decide_eq_false c148
              clear c148
              by_cases c156 : t1005 = t1002
              ·rw [if_pos c156] at H
               have c156b0 : (t1005 == t1002) = true := beq_iff_eq.mpr c156
               have c156b1 : (t1005 != t1002) = false := bne_eq_false_iff_eq.mpr c156
               clear c156
               replace H := Option.bind_eq_some_iff.mp H
               obtain ⟨⟨t1006, t1007, t1010⟩, A1570, H⟩ := H
               replace H : ((laws_toIntS.f kj99 l1).bind fun t1013 => ((laws_toIntS.f kj99 l2).bind fun t1016 => ((impl_EqGates.f kj99 t1006 t1007 t1010 t1013 t1016).bind fun bt1019 => ((laws_eqCircuit.f kj99 bt1019.1 bt1019.2.1 bt1019.2.2.1 t943 t944 t947).bind fun t1029 => (if t1029 = true then (if bt1019.2.2.2.1 = t950 then (laws_FnExactEqGates.j2 kj99 t1002 (bt1019.2.2.2.2 != t951) t967 t1003 t1004) else (laws_FnExactEqGates.j2 kj99 t1002 true t967 t1003 t1004)) else (laws_FnExactEqGates.j2 kj99 t1002 true t967 t1003 t1004)))))) = some true := H
               have A157 := Aside0.mk A1570
               clear A1570
               replace H := Option.bind_eq_some_iff.mp H
               obtain ⟨t1013, A1580, H⟩ := H
               replace H : ((laws_toIntS.f kj99 l2).bind fun t1016 => ((impl_EqGates.f kj99 t1006 t1007 t1010 t1013 t1016).bind fun bt1019 => ((laws_eqCircuit.f kj99 bt1019.1 bt1019.2.1 bt1019.2.2.1 t943 t944 t947).bind fun t1029 => (if t1029 = true then (if bt1019.2.2.2.1 = t950 then (laws_FnExactEqGates.j2 kj99 t1002 (bt1019.2.2.2.2 != t951) t967 t1003 t1004) else (laws_FnExactEqGates.j2 kj99 t1002 true t967 t1003 t1004)) else (laws_FnExactEqGates.j2 kj99 t1002 true t967 t1003 t1004))))) = some true := H
               have A158 := Aside0.mk A1580
               clear A1580
               replace H := Option.bind_eq_some_iff.mp H
               obtain ⟨t1016, A1590, H⟩ := H
               replace H : ((impl_EqGates.f kj99 t1006 t1007 t1010 t1013 t1016).bind fun bt1019 => ((laws_eqCircuit.f kj99 bt1019.1 bt1019.2.1 bt1019.2.2.1 t943 t944 t947).bind fun t1029 => (if t1029 = true then (if bt1019.2.2.2.1 = t950 then (laws_FnExactEqGates.j2 kj99 t1002 (bt1019.2.2.2.2 != t951) t967 t1003 t1004) else (laws_FnExactEqGates.j2 kj99 t1002 true t967 t1003 t1004)) else (laws_FnExactEqGates.j2 kj99 t1002 true t967 t1003 t1004)))) = some true := H
               have A159 := Aside0.mk A1590
               clear A1590
               replace H := Option.bind_eq_some_iff.mp H
               obtain ⟨⟨t1019, t1020, t1023, t1026, t1027⟩, A1600, H⟩ := H
               replace H : ((laws_eqCircuit.f kj99 t1019 t1020 t1023 t943 t944 t947).bind fun t1029 => (if t1029 = true then (if t1026 = t950 then (laws_FnExactEqGates.j2 kj99 t1002 (t1027 != t951) t967 t1003 t1004) else (laws_FnExactEqGates.j2 kj99 t1002 true t967 t1003 t1004)) else (laws_FnExactEqGates.j2 kj99 t1002 true t967 t1003 t1004))) = some true := H
               have A160 := Aside0.mk A1600
               clear A1600
               have HC161 := Aside0.mk H
               clear H
               have hnb162 := NB976_928.out
               have hnc162 := NB928_976.out
               have hnb163 := NB976_952.out
               have hnc163 := NB952_976.out
               have hnb164 := NB976_960.out
               have hnc164 := NB960_976.out
               have hcz165_0 : wc.cell? ⟨gb976, 0, none⟩ = some (.int .i64 t967) := (blk_cell BK976.out 0).trans rfl
               have hcz165_1 : wc.cell? ⟨gb976, 1, none⟩ = some (.slice Ao58 t968.length co58) := (blk_cell BK976.out 1).trans rfl
               have hcz165_2 : wc.cell? ⟨gb976, 2, none⟩ = some (.slice Ao59 t971.length co59) := (blk_cell BK976.out 2).trans rfl
               have hfz165_0 := blk_frozen BK976.out 0
               have hfz165_1 := blk_frozen BK976.out 1
               have hfz165_2 := blk_frozen BK976.out 2
               go_upto_region 37 with (first | ((with_reducible refine gate_callee (f := 20) rfl ?_); refine goesL_ (some 117) rfl rfl Try.func20 (by kernel_rfl) rfl #[.agg #[.int .i64 t967, .slice Ao58 t968.length co58, .slice Ao59 t971.length co59], .int .i64 1] rfl qG ?_; (with_reducible refine (laws_markCircuit.calls kj99 t967 (fun k_ => some k_ = (.slice Ao58 t968.length co58 : Value).ownBlock) (.slice Ao58 t968.length co58) t968 (fun k_ => some k_ = (.slice Ao59 t971.length co59 : Value).ownBlock) (.slice Ao59 t971.length co59) t971 1 t1002 t1003 t1004 w _ ?side1 ?side2 ?side3 A146.out).mono ?_); (case side1 => repeat (first | (with_reducible first | exact HB.out | apply below_alloc | apply pw_below_drewN | apply below_drew1 | refine below_set ?_ GE928.out | refine below_set ?_ GE952.out | refine below_set ?_ GE960.out | refine below_set ?_ GE976.out) | exact HB.out)); (case side2 => exact Kd.R_tight rfl HO_977001.out); (case side3 => exact Kd.R_tight rfl HO_977002.out); rintro e w166 ⟨rfl, hy0, hy1, hb, hkp⟩; refine ⟨_, rfl, ?_⟩; have n0_ := Aside0.mk (Kd.R_mono (ok' := fun k_ => some k_ ≠ (.slice Ao45 t995.length co45 : Value).ownBlock ∧ some k_ ≠ (.slice Ao58 t968.length co58 : Value).ownBlock) (Kd.R_keptB ((Kd.R_apart' HO_953001.out (Kd.R_typed HO_977002.out) (by decide))) hkp (fun k_ hk_ hs_ => Or.elim hs_ (fun e_ => (hk_.1.2) e_) (fun e_ => (hk_.2) e_))) (fun k_ hk_ => ⟨hk_.1.1.1, hk_.1.1.2⟩)); have n1_ := Aside0.mk (Kd.R_mono (ok' := fun k_ => some k_ ≠ (.slice Ao46 t996.length co46 : Value).ownBlock ∧ some k_ ≠ (.slice Ao59 t971.length co59 : Value).ownBlock) (Kd.R_keptB ((Kd.R_apart' HO_953002.out (Kd.R_typed HO_977001.out) (by decide))) hkp (fun k_ hk_ hs_ => Or.elim hs_ (fun e_ => (hk_.2) e_) (fun e_ => (hk_.1.2) e_))) (fun k_ hk_ => ⟨hk_.1.1.1, hk_.1.1.2⟩)); have n2_ := Aside0.mk (Kd.R_mono (ok' := fun k_ => some k_ ≠ (.slice Ao37 t944.length co37 : Value).ownBlock ∧ some k_ ≠ (.slice Ao58 t968.length co58 : Value).ownBlock) (Kd.R_keptB ((Kd.R_apart' HO_961001.out (Kd.R_typed HO_977002.out) (by decide))) hkp (fun k_ hk_ hs_ => Or.elim hs_ (fun e_ => (hk_.1.2) e_) (fun e_ => (hk_.2) e_))) (fun k_ hk_ => ⟨hk_.1.1.1, hk_.1.1.2⟩)); have n3_ := Aside0.mk (Kd.R_mono (ok' := fun k_ => some k_ ≠ (.slice Ao38 t947.length co38 : Value).ownBlock ∧ some k_ ≠ (.slice Ao59 t971.length co59 : Value).ownBlock) (Kd.R_keptB ((Kd.R_apart' HO_961002.out (Kd.R_typed HO_977001.out) (by decide))) hkp (fun k_ hk_ hs_ => Or.elim hs_ (fun e_ => (hk_.2) e_) (fun e_ => (hk_.1.2) e_))) (fun k_ hk_ => ⟨hk_.1.1.1, hk_.1.1.2⟩)); have n4_ := Aside0.mk (Kd.R_reok rfl hy0 (fun k_ e_ => HO_977001.out.1 k_ e_)); have n5_ := Aside0.mk (Kd.R_reok rfl hy1 (fun k_ e_ => HO_977002.out.1 k_ e_)); have n6_ := Aside0.mk (blk_kept BK928.out hkp (fun hs_ => Or.elim hs_ (fun e_ => (fun e_ => (Kd.R_ne HO_977001.out BK928.out (by decide)) e_) e_) (fun e_ => (fun e_ => (Kd.R_ne HO_977002.out BK928.out (by decide)) e_) e_))); have n7_ := Aside0.mk (blk_kept BK952.out hkp (fun hs_ => Or.elim hs_ (fun e_ => (fun e_ => (Kd.R_ne HO_977001.out BK952.out (by decide)) e_) e_) (fun e_ => (fun e_ => (Kd.R_ne HO_977002.out BK952.out (by decide)) e_) e_))); have n8_ := Aside0.mk (blk_kept BK960.out hkp (fun hs_ => Or.elim hs_ (fun e_ => (fun e_ => (Kd.R_ne HO_977001.out BK960.out (by decide)) e_) e_) (fun e_ => (fun e_ => (Kd.R_ne HO_977002.out BK960.out (by decide)) e_) e_))); have n9_ := Aside0.mk (blk_kept BK976.out hkp (fun hs_ => Or.elim hs_ (fun e_ => (fun e_ => (Kd.R_ne HO_977001.out BK976.out (by decide)) e_) e_) (fun e_ => (fun e_ => (Kd.R_ne HO_977002.out BK976.out (by decide)) e_) e_))); have n10_ := Aside0.mk (hb); clear HO_953001; clear HO_953002; clear HO_961001; clear HO_961002; clear HO_977001; clear HO_977002; clear BK928; clear BK952; clear BK960; clear BK976; clear HB; have HO_953001 := n0_; have HO_953002 := n1_; have HO_961001 := n2_; have HO_961002 := n3_; have HO_977001 := n4_; have HO_977002 := n5_; have BK928 := n6_; have BK952 := n7_; have BK960 := n8_; have BK976 := n9_; have HB := n10_; clear n0_ n1_ n2_ n3_ n4_ n5_ n6_ n7_ n8_ n9_ n10_; (try clear hb); (try clear hkp); (try clear hy0); (try clear hy1); have hcz167_0 : w166.cell? ⟨gb976, 0, none⟩ = some (.int .i64 t967) := (blk_cell BK976.out 0).trans rfl; have hcz167_1 : w166.cell? ⟨gb976, 1, none⟩ = some (.slice Ao58 t968.length co58) := (blk_cell BK976.out 1).trans rfl; have hcz167_2 : w166.cell? ⟨gb976, 2, none⟩ = some (.slice Ao59 t971.length co59) := (blk_cell BK976.out 2).trans rfl; have hfz167_0 := blk_frozen BK976.out 0; have hfz167_1 := blk_frozen BK976.out 1; have hfz167_2 := blk_frozen BK976.out 2) | ((with_reducible refine gate_callee (f := 32) rfl ?_); refine goesL_ (some 120) rfl rfl Try.func32 (by kernel_rfl) rfl #[.agg #[.int .i64 t967, .slice Ao58 t1003.length co58, .slice Ao59 t1004.length co59], .int .i64 1] rfl (by (try simp only [List.map_toArray, List.map_cons, List.map_nil]); first | done | (rw [show t1003.length = t968.length from (Kd.R_reads' HO_977001.out).1.symm, show t1004.length = t971.length from (Kd.R_reads' HO_977002.out).1.symm] <;> rfl) | rfl | (simp only [List.length_drop, List.length_take]; rfl)) ?_; (with_reducible refine (laws_heldCircuit.calls kj99 t967 _ _ t1003 _ _ t1004 1 t1005 _ ?side1 ?side2 ?side3 ?side4 A147.out).mono ?_); (case side1 => repeat (first | exact (Kd.R_reads' HO_977001.out).2.2 | (with_reducible refine Kd.C_alloc ?_ _) | (with_reducible refine Kd.C_drewN ?_ _) | (with_reducible refine Kd.C_drew ?_))); (case side2 => rw [show t1003.length = t968.length from (Kd.R_reads' HO_977001.out).1.symm]; exact (Kd.R_reads' HO_977001.out).2.1); (case side3 => repeat (first | exact (Kd.R_reads' HO_977002.out).2.2 | (with_reducible refine Kd.C_alloc ?_ _) | (with_reducible refine Kd.C_drewN ?_ _) | (with_reducible refine Kd.C_drew ?_))); (case side4 => rw [show t1004.length = t971.length from (Kd.R_reads' HO_977002.out).1.symm]; exact (Kd.R_reads' HO_977002.out).2.1); rintro e w168 ⟨rfl, hb⟩; refine ⟨_, rfl, ?_⟩; have n0_ := Aside0.mk (Kd.R_below (qR HO_953001.out) hb); have n1_ := Aside0.mk (Kd.R_below (qR HO_953002.out) hb); have n2_ := Aside0.mk (Kd.R_below (qR HO_961001.out) hb); have n3_ := Aside0.mk (Kd.R_below (qR HO_961002.out) hb); have n4_ := Aside0.mk (Kd.R_below (qR HO_977001.out) hb); have n5_ := Aside0.mk (Kd.R_below (qR HO_977002.out) hb); have n6_ := Aside0.mk (blk_below (g := gb928) (o := .cells #[.int .i64 a0_0, .slice A0_1 l0_1.length c0_1, .slice A0_2 l0_2.length c0_2] 25 (0, 0)) (qK BK928.out) hb); have n7_ := Aside0.mk (blk_below (g := gb952) (o := .cells #[.int .i64 t943, .slice Ao37 t944.length co37, .slice Ao38 t947.length co38] 30 (0, 0)) (qK BK952.out) hb); have n8_ := Aside0.mk (blk_below (g := gb960) (o := .cells #[.int .i64 t953, .slice Ao45 t995.length co45, .slice Ao46 t996.length co46] 30 (0, 0)) (qK BK960.out) hb); have n9_ := Aside0.mk (blk_below (g := gb976) (o := .cells #[.int .i64 t967, .slice Ao58 t968.length co58, .slice Ao59 t971.length co59] 30 (0, 0)) (qK BK976.out) hb); have n10_ := Aside0.mk (below_step (qB) hb); clear HO_953001; clear HO_953002; clear HO_961001; clear HO_961002; clear HO_977001; clear HO_977002; clear BK928; clear BK952; clear BK960; clear BK976; clear HB; have HO_953001 := n0_; have HO_953002 := n1_; have HO_961001 := n2_; have HO_961002 := n3_; have HO_977001 := n4_; have HO_977002 := n5_; have BK928 := n6_; have BK952 := n7_; have BK960 := n8_; have BK976 := n9_; have HB := n10_; clear n0_ n1_ n2_ n3_ n4_ n5_ n6_ n7_ n8_ n9_ n10_; (try clear hb); (try clear hb2); (try clear hk); (try clear hi); have hnb169 := NB928_952.out; have hnc169 := NB952_928.out; have hnb170 := NB928_960.out; have hnc170 := NB960_928.out; have hcz171_0 : w168.cell? ⟨gb928, 0, none⟩ = some (.int .i64 a0_0) := (blk_cell BK928.out 0).trans rfl; have hcz171_1 : w168.cell? ⟨gb928, 1, none⟩ = some (.slice A0_1 l0_1.length c0_1) := (blk_cell BK928.out 1).trans rfl; have hcz171_2 : w168.cell? ⟨gb928, 2, none⟩ = some (.slice A0_2 l0_2.length c0_2) := (blk_cell BK928.out 2).trans rfl; have hfz171_0 := blk_frozen BK928.out 0; have hfz171_1 := blk_frozen BK928.out 1; have hfz171_2 := blk_frozen BK928.out 2) | ((with_reducible refine gate_callee (f := 13) rfl ?_); refine goesL_ (some 128) rfl rfl Try.func13 (by kernel_rfl) rfl #[.agg #[.int .i64 a0_0, .slice A0_1 l0_1.length c0_1, .slice A0_2 l0_2.length c0_2]] rfl qG ?_; (with_reducible refine (laws_toCircuit.calls kj99 a0_0 _ _ l0_1 _ _ l0_2 t1006 t1007 t1010 _ ?side1 ?side2 ?side3 ?side4 A157.out).mono ?_); (case side1 => exact qC (Kd.C_below HR0_1.out HB.out)); (case side2 => exact HC0_1.out); (case side3 => exact qC (Kd.C_below HR0_2.out HB.out)); (case side4 => exact HC0_2.out); rintro e w172 ⟨v1008, v1011, rfl, ho0, ho1, hb⟩; refine ⟨_, rfl, ?_⟩; have n0_ := Aside0.mk (Kd.R_elder' (qR HO_953001.out) (Kd.R_base ho0) hb); have n1_ := Aside0.mk (Kd.R_elder' (qR HO_953002.out) (Kd.R_base ho1) hb); have n2_ := Aside0.mk (Kd.R_elder' (qR HO_961001.out) (Kd.R_base ho0) hb); have n3_ := Aside0.mk (Kd.R_elder' (qR HO_961002.out) (Kd.R_base ho1) hb); have n4_ := Aside0.mk (Kd.R_elder' (qR HO_977001.out) (Kd.R_base ho0) hb); have n5_ := Aside0.mk (Kd.R_elder' (qR HO_977002.out) (Kd.R_base ho1) hb); have n6_ := Aside0.mk (Kd.R_lower (Kd.R_new' (Kd.R_new' (Kd.R_new' ho0 (Kd.R_lt (qR HO_953001.out))) (Kd.R_lt (qR HO_961001.out))) (Kd.R_lt (qR HO_977001.out))) (below_size (qB))); have n7_ := Aside0.mk (Kd.R_lower (Kd.R_new' (Kd.R_new' (Kd.R_new' ho1 (Kd.R_lt (qR HO_953002.out))) (Kd.R_lt (qR HO_961002.out))) (Kd.R_lt (qR HO_977002.out))) (below_size (qB))); have n8_ := Aside0.mk (blk_below (g := gb928) (o := .cells #[.int .i64 a0_0, .slice A0_1 l0_1.length c0_1, .slice A0_2 l0_2.length c0_2] 25 (0, 0)) (qK BK928.out) hb); have n9_ := Aside0.mk (blk_below (g := gb952) (o := .cells #[.int .i64 t943, .slice Ao37 t944.length co37, .slice Ao38 t947.length co38] 30 (0, 0)) (qK BK952.out) hb); have n10_ := Aside0.mk (blk_below (g := gb960) (o := .cells #[.int .i64 t953, .slice Ao45 t995.length co45, .slice Ao46 t996.length co46] 30 (0, 0)) (qK BK960.out) hb); have n11_ := Aside0.mk (blk_below (g := gb976) (o := .cells #[.int .i64 t967, .slice Ao58 t968.length co58, .slice Ao59 t971.length co59] 30 (0, 0)) (qK BK976.out) hb); have n12_ := Aside0.mk (below_step (qB) hb); clear HO_953001; clear HO_953002; clear HO_961001; clear HO_961002; clear HO_977001; clear HO_977002; clear BK928; clear BK952; clear BK960; clear BK976; clear HB; have HO_953001 := n0_; have HO_953002 := n1_; have HO_961001 := n2_; have HO_961002 := n3_; have HO_977001 := n4_; have HO_977002 := n5_; have HO1009 := n6_; have HO1012 := n7_; have BK928 := n8_; have BK952 := n9_; have BK960 := n10_; have BK976 := n11_; have HB := n12_; clear n0_ n1_ n2_ n3_ n4_ n5_ n6_ n7_ n8_ n9_ n10_ n11_ n12_; (try clear hb); (try clear hb2); (try clear hk); (try clear hi); (try clear ho0); (try clear ho1)) | ((with_reducible refine gate_callee (f := 34) rfl ?_); refine goesL_ (some 130) rfl rfl Try.func34 (by kernel_rfl) rfl #[.slice A1 l1.length c1] rfl qG ?_; (with_reducible refine (laws_toIntS.calls kj99 _ _ l1 t1013 _ ?side1 ?side2 A158.out).mono ?_); (case side1 => exact qC (Kd.C_below HR1.out HB.out)); (case side2 => exact HC1.out); rintro e w173 ⟨v1014, rfl, ho0, hb⟩; refine ⟨_, rfl, ?_⟩; have n0_ := Aside0.mk (Kd.R_below (qR HO_953001.out) hb); have n1_ := Aside0.mk (Kd.R_elder' (qR HO_953002.out) (Kd.R_base ho0) hb); have n2_ := Aside0.mk (Kd.R_below (qR HO_961001.out) hb); have n3_ := Aside0.mk (Kd.R_elder' (qR HO_961002.out) (Kd.R_base ho0) hb); have n4_ := Aside0.mk (Kd.R_below (qR HO_977001.out) hb); have n5_ := Aside0.mk (Kd.R_elder' (qR HO_977002.out) (Kd.R_base ho0) hb); have n6_ := Aside0.mk (Kd.R_below (qR HO1009.out) hb); have n7_ := Aside0.mk (Kd.R_elder' (qR HO1012.out) (Kd.R_base ho0) hb); have n8_ := Aside0.mk (Kd.R_lower (Kd.R_new' (Kd.R_new' (Kd.R_new' (Kd.R_new' ho0 (Kd.R_lt (qR HO_953002.out))) (Kd.R_lt (qR HO_961002.out))) (Kd.R_lt (qR HO_977002.out))) (Kd.R_lt (qR HO1012.out))) (below_size (qB))); have n9_ := Aside0.mk (blk_below (g := gb928) (o := .cells #[.int .i64 a0_0, .slice A0_1 l0_1.length c0_1, .slice A0_2 l0_2.length c0_2] 25 (0, 0)) (qK BK928.out) hb); have n10_ := Aside0.mk (blk_below (g := gb952) (o := .cells #[.int .i64 t943, .slice Ao37 t944.length co37, .slice Ao38 t947.length co38] 30 (0, 0)) (qK BK952.out) hb); have n11_ := Aside0.mk (blk_below (g := gb960) (o := .cells #[.int .i64 t953, .slice Ao45 t995.length co45, .slice Ao46 t996.length co46] 30 (0, 0)) (qK BK960.out) hb); have n12_ := Aside0.mk (blk_below (g := gb976) (o := .cells #[.int .i64 t967, .slice Ao58 t968.length co58, .slice Ao59 t971.length co59] 30 (0, 0)) (qK BK976.out) hb); have n13_ := Aside0.mk (below_step (qB) hb); clear HO_953001; clear HO_953002; clear HO_961001; clear HO_961002; clear HO_977001; clear HO_977002; clear HO1009; clear HO1012; clear BK928; clear BK952; clear BK960; clear BK976; clear HB; have HO_953001 := n0_; have HO_953002 := n1_; have HO_961001 := n2_; have HO_961002 := n3_; have HO_977001 := n4_; have HO_977002 := n5_; have HO1009 := n6_; have HO1012 := n7_; have HO1015 := n8_; have BK928 := n9_; have BK952 := n10_; have BK960 := n11_; have BK976 := n12_; have HB := n13_; clear n0_ n1_ n2_ n3_ n4_ n5_ n6_ n7_ n8_ n9_ n10_ n11_ n12_ n13_; (try clear hb); (try clear hb2); (try clear hk); (try clear hi); (try clear ho0)) | ((with_reducible refine gate_callee (f := 34) rfl ?_); refine goesL_ (some 132) rfl rfl Try.func34 (by kernel_rfl) rfl #[.slice A2 l2.length c2] rfl qG ?_; (with_reducible refine (laws_toIntS.calls kj99 _ _ l2 t1016 _ ?side1 ?side2 A159.out).mono ?_); (case side1 => exact qC (Kd.C_below HR2.out HB.out)); (case side2 => exact HC2.out); rintro e w174 ⟨v1017, rfl, ho0, hb⟩; refine ⟨_, rfl, ?_⟩; have n0_ := Aside0.mk (Kd.R_below (qR HO_953001.out) hb); have n1_ := Aside0.mk (Kd.R_elder' (qR HO_953002.out) (Kd.R_base ho0) hb); have n2_ := Aside0.mk (Kd.R_below (qR HO_961001.out) hb); have n3_ := Aside0.mk (Kd.R_elder' (qR HO_961002.out) (Kd.R_base ho0) hb); have n4_ := Aside0.mk (Kd.R_below (qR HO_977001.out) hb); have n5_ := Aside0.mk (Kd.R_elder' (qR HO_977002.out) (Kd.R_base ho0) hb); have n6_ := Aside0.mk (Kd.R_below (qR HO1009.out) hb); have n7_ := Aside0.mk (Kd.R_elder' (qR HO1012.out) (Kd.R_base ho0) hb); have n8_ := Aside0.mk (Kd.R_elder' (qR HO1015.out) (Kd.R_base ho0) hb); have n9_ := Aside0.mk (Kd.R_lower (Kd.R_new' (Kd.R_new' (Kd.R_new' (Kd.R_new' (Kd.R_new' ho0 (Kd.R_lt (qR HO_953002.out))) (Kd.R_lt (qR HO_961002.out))) (Kd.R_lt (qR HO_977002.out))) (Kd.R_lt (qR HO1012.out))) (Kd.R_lt (qR HO1015.out))) (below_size (qB))); have n10_ := Aside0.mk (blk_below (g := gb928) (o := .cells #[.int .i64 a0_0, .slice A0_1 l0_1.length c0_1, .slice A0_2 l0_2.length c0_2] 25 (0, 0)) (qK BK928.out) hb); have n11_ := Aside0.mk (blk_below (g := gb952) (o := .cells #[.int .i64 t943, .slice Ao37 t944.length co37, .slice Ao38 t947.length co38] 30 (0, 0)) (qK BK952.out) hb); have n12_ := Aside0.mk (blk_below (g := gb960) (o := .cells #[.int .i64 t953, .slice Ao45 t995.length co45, .slice Ao46 t996.length co46] 30 (0, 0)) (qK BK960.out) hb); have n13_ := Aside0.mk (blk_below (g := gb976) (o := .cells #[.int .i64 t967, .slice Ao58 t968.length co58, .slice Ao59 t971.length co59] 30 (0, 0)) (qK BK976.out) hb); have n14_ := Aside0.mk (below_step (qB) hb); clear HO_953001; clear HO_953002; clear HO_961001; clear HO_961002; clear HO_977001; clear HO_977002; clear HO1009; clear HO1012; clear HO1015; clear BK928; clear BK952; clear BK960; clear BK976; clear HB; have HO_953001 := n0_; have HO_953002 := n1_; have HO_961001 := n2_; have HO_961002 := n3_; have HO_977001 := n4_; have HO_977002 := n5_; have HO1009 := n6_; have HO1012 := n7_; have HO1015 := n8_; have HO1018 := n9_; have BK928 := n10_; have BK952 := n11_; have BK960 := n12_; have BK976 := n13_; have HB := n14_; clear n0_ n1_ n2_ n3_ n4_ n5_ n6_ n7_ n8_ n9_ n10_ n11_ n12_ n13_ n14_; (try clear hb); (try clear hb2); (try clear hk); (try clear hi); (try clear ho0); obtain ⟨Ao175, co175, eo175⟩ := Kd.R_slice HO1009.out; subst eo175; obtain ⟨Ao176, co176, eo176⟩ := Kd.R_slice HO1012.out; subst eo176; obtain ⟨Ao177, co177, eo177⟩ := Kd.R_slice HO1015.out; subst eo177; obtain ⟨Ao178, co178, eo178⟩ := Kd.R_slice HO1018.out; subst eo178) | ((with_reducible refine gate_callee (f := 39) rfl ?_); refine goesL_ (some 133) rfl rfl Try.func39 (by kernel_rfl) rfl #[.agg #[.int .i64 t1006, .slice Ao175 t1007.length co175, .slice Ao176 t1010.length co176], .slice Ao177 t1013.length co177, .slice Ao178 t1016.length co178] rfl qG ?_; (with_reducible refine (impl_EqGates.calls kj99 t1006 _ _ t1007 _ _ t1010 _ _ t1013 _ _ t1016 t1019 t1020 t1023 t1026 t1027 _ ?side1 ?side2 ?side3 ?side4 ?side5 ?side6 ?side7 ?side8 A160.out).mono ?_); (case side1 => repeat (first | exact (Kd.R_reads' HO1009.out).2.2 | (with_reducible refine Kd.C_alloc ?_ _) | (with_reducible refine Kd.C_drewN ?_ _) | (with_reducible refine Kd.C_drew ?_))); (case side2 => exact (Kd.R_reads' HO1009.out).2.1); (case side3 => repeat (first | exact (Kd.R_reads' HO1012.out).2.2 | (with_reducible refine Kd.C_alloc ?_ _) | (with_reducible refine Kd.C_drewN ?_ _) | (with_reducible refine Kd.C_drew ?_))); (case side4 => exact (Kd.R_reads' HO1012.out).2.1); (case side5 => repeat (first | exact (Kd.R_reads' HO1015.out).2.2 | (with_reducible refine Kd.C_alloc ?_ _) | (with_reducible refine Kd.C_drewN ?_ _) | (with_reducible refine Kd.C_drew ?_))); (case side6 => exact (Kd.R_reads' HO1015.out).2.1); (case side7 => repeat (first | exact (Kd.R_reads' HO1018.out).2.2 | (with_reducible refine Kd.C_alloc ?_ _) | (with_reducible refine Kd.C_drewN ?_ _) | (with_reducible refine Kd.C_drew ?_))); (case side8 => exact (Kd.R_reads' HO1018.out).2.1); rintro e w179 ⟨v1021, v1024, rfl, ho0, ho1, hb⟩; refine ⟨_, rfl, ?_⟩; have n0_ := Aside0.mk (Kd.R_elder' (qR HO_953001.out) (Kd.R_base ho0) hb); have n1_ := Aside0.mk (Kd.R_elder' (qR HO_953002.out) (Kd.R_base ho1) hb); have n2_ := Aside0.mk (Kd.R_elder' (qR HO_961001.out) (Kd.R_base ho0) hb); have n3_ := Aside0.mk (Kd.R_elder' (qR HO_961002.out) (Kd.R_base ho1) hb); have n4_ := Aside0.mk (Kd.R_elder' (qR HO_977001.out) (Kd.R_base ho0) hb); have n5_ := Aside0.mk (Kd.R_elder' (qR HO_977002.out) (Kd.R_base ho1) hb); have n6_ := Aside0.mk (Kd.R_elder' (qR HO1009.out) (Kd.R_base ho0) hb); have n7_ := Aside0.mk (Kd.R_elder' (qR HO1012.out) (Kd.R_base ho1) hb); have n8_ := Aside0.mk (Kd.R_elder' (qR HO1015.out) (Kd.R_base ho1) hb); have n9_ := Aside0.mk (Kd.R_elder' (qR HO1018.out) (Kd.R_base ho1) hb); have n10_ := Aside0.mk (Kd.R_lower (Kd.R_new' (Kd.R_new' (Kd.R_new' (Kd.R_new' ho0 (Kd.R_lt (qR HO_953001.out))) (Kd.R_lt (qR HO_961001.out))) (Kd.R_lt (qR HO_977001.out))) (Kd.R_lt (qR HO1009.out))) (below_size (qB))); have n11_ := Aside0.mk (Kd.R_lower (Kd.R_new' (Kd.R_new' (Kd.R_new' (Kd.R_new' (Kd.R_new' (Kd.R_new' ho1 (Kd.R_lt (qR HO_953002.out))) (Kd.R_lt (qR HO_961002.out))) (Kd.R_lt (qR HO_977002.out))) (Kd.R_lt (qR HO1012.out))) (Kd.R_lt (qR HO1015.out))) (Kd.R_lt (qR HO1018.out))) (below_size (qB))); have n12_ := Aside0.mk (blk_below (g := gb928) (o := .cells #[.int .i64 a0_0, .slice A0_1 l0_1.length c0_1, .slice A0_2 l0_2.length c0_2] 25 (0, 0)) (qK BK928.out) hb); have n13_ := Aside0.mk (blk_below (g := gb952) (o := .cells #[.int .i64 t943, .slice Ao37 t944.length co37, .slice Ao38 t947.length co38] 30 (0, 0)) (qK BK952.out) hb); have n14_ := Aside0.mk (blk_below (g := gb960) (o := .cells #[.int .i64 t953, .slice Ao45 t995.length co45, .slice Ao46 t996.length co46] 30 (0, 0)) (qK BK960.out) hb); have n15_ := Aside0.mk (blk_below (g := gb976) (o := .cells #[.int .i64 t967, .slice Ao58 t968.length co58, .slice Ao59 t971.length co59] 30 (0, 0)) (qK BK976.out) hb); have n16_ := Aside0.mk (below_step (qB) hb); clear HO_953001; clear HO_953002; clear HO_961001; clear HO_961002; clear HO_977001; clear HO_977002; clear HO1009; clear HO1012; clear HO1015; clear HO1018; clear BK928; clear BK952; clear BK960; clear BK976; clear HB; have HO_953001 := n0_; have HO_953002 := n1_; have HO_961001 := n2_; have HO_961002 := n3_; have HO_977001 := n4_; have HO_977002 := n5_; have HO1009 := n6_; have HO1012 := n7_; have HO1015 := n8_; have HO1018 := n9_; have HO1022 := n10_; have HO1025 := n11_; have BK928 := n12_; have BK952 := n13_; have BK960 := n14_; have BK976 := n15_; have HB := n16_; clear n0_ n1_ n2_ n3_ n4_ n5_ n6_ n7_ n8_ n9_ n10_ n11_ n12_ n13_ n14_ n15_ n16_; (try clear hb); (try clear hb2); (try clear hk); (try clear hi); (try clear ho0); (try clear ho1)) | ((with_reducible refine gate_dst (N := 20) rfl ?_); refine box_event ?hg (N := 20) ?hd (cs := #[.int .i64 0, .slice none 0 0, .slice none 0 0]) (t := 30) ?hr ?_; (case hd => rfl); (case hg => rfl); (case hr => first | (go_simp; done) | (go_simp; rfl)); intro gb1028 hg w180 hbox hb; have n0_ := Aside0.mk (Kd.R_below (qR HO_953001.out) hb); have n1_ := Aside0.mk (Kd.R_below (qR HO_953002.out) hb); have n2_ := Aside0.mk (Kd.R_below (qR HO_961001.out) hb); have n3_ := Aside0.mk (Kd.R_below (qR HO_961002.out) hb); have n4_ := Aside0.mk (Kd.R_below (qR HO_977001.out) hb); have n5_ := Aside0.mk (Kd.R_below (qR HO_977002.out) hb); have n6_ := Aside0.mk (Kd.R_below (qR HO1009.out) hb); have n7_ := Aside0.mk (Kd.R_below (qR HO1012.out) hb); have n8_ := Aside0.mk (Kd.R_below (qR HO1015.out) hb); have n9_ := Aside0.mk (Kd.R_below (qR HO1018.out) hb); have n10_ := Aside0.mk (Kd.R_below (qR HO1022.out) hb); have n11_ := Aside0.mk (Kd.R_below (qR HO1025.out) hb); have n12_ := Aside0.mk (blk_below (g := gb928) (o := .cells #[.int .i64 a0_0, .slice A0_1 l0_1.length c0_1, .slice A0_2 l0_2.length c0_2] 25 (0, 0)) (qK BK928.out) hb); have n13_ := Aside0.mk (blk_below (g := gb952) (o := .cells #[.int .i64 t943, .slice Ao37 t944.length co37, .slice Ao38 t947.length co38] 30 (0, 0)) (qK BK952.out) hb); have n14_ := Aside0.mk (blk_below (g := gb960) (o := .cells #[.int .i64 t953, .slice Ao45 t995.length co45, .slice Ao46 t996.length co46] 30 (0, 0)) (qK BK960.out) hb); have n15_ := Aside0.mk (blk_below (g := gb976) (o := .cells #[.int .i64 t967, .slice Ao58 t968.length co58, .slice Ao59 t971.length co59] 30 (0, 0)) (qK BK976.out) hb); have n16_ := Aside0.mk (below_step (qB) hb); have n17_ := Aside0.mk (hbox); have n18_ := Aside0.mk ((by rw [hg]; exact (below_size (qB)) : w.heap.size ≤ gb1028)); have n19_ := Aside0.mk ((by rw [hg]; exact (below_size (qB)) : w.heap.size ≤ gb1028)); have n20_ := Aside0.mk ((by rw [hg]; exact Nat.ne_of_lt (blk_lt (g := gb928) (o := .cells #[.int .i64 a0_0, .slice A0_1 l0_1.length c0_1, .slice A0_2 l0_2.length c0_2] 25 (0, 0)) (qK BK928.out)) : gb928 ≠ gb1028)); have n21_ := Aside0.mk ((by rw [hg]; exact Nat.ne_of_gt (blk_lt (g := gb928) (o := .cells #[.int .i64 a0_0, .slice A0_1 l0_1.length c0_1, .slice A0_2 l0_2.length c0_2] 25 (0, 0)) (qK BK928.out)) : gb1028 ≠ gb928)); have n22_ := Aside0.mk ((by rw [hg]; exact Nat.ne_of_lt (blk_lt (g := gb952) (o := .cells #[.int .i64 t943, .slice Ao37 t944.length co37, .slice Ao38 t947.length co38] 30 (0, 0)) (qK BK952.out)) : gb952 ≠ gb1028)); have n23_ := Aside0.mk ((by rw [hg]; exact Nat.ne_of_gt (blk_lt (g := gb952) (o := .cells #[.int .i64 t943, .slice Ao37 t944.length co37, .slice Ao38 t947.length co38] 30 (0, 0)) (qK BK952.out)) : gb1028 ≠ gb952)); have n24_ := Aside0.mk ((by rw [hg]; exact Nat.ne_of_lt (blk_lt (g := gb960) (o := .cells #[.int .i64 t953, .slice Ao45 t995.length co45, .slice Ao46 t996.length co46] 30 (0, 0)) (qK BK960.out)) : gb960 ≠ gb1028)); have n25_ := Aside0.mk ((by rw [hg]; exact Nat.ne_of_gt (blk_lt (g := gb960) (o := .cells #[.int .i64 t953, .slice Ao45 t995.length co45, .slice Ao46 t996.length co46] 30 (0, 0)) (qK BK960.out)) : gb1028 ≠ gb960)); have n26_ := Aside0.mk ((by rw [hg]; exact Nat.ne_of_lt (blk_lt (g := gb976) (o := .cells #[.int .i64 t967, .slice Ao58 t968.length co58, .slice Ao59 t971.length co59] 30 (0, 0)) (qK BK976.out)) : gb976 ≠ gb1028)); have n27_ := Aside0.mk ((by rw [hg]; exact Nat.ne_of_gt (blk_lt (g := gb976) (o := .cells #[.int .i64 t967, .slice Ao58 t968.length co58, .slice Ao59 t971.length co59] 30 (0, 0)) (qK BK976.out)) : gb1028 ≠ gb976)); clear HO_953001; clear HO_953002; clear HO_961001; clear HO_961002; clear HO_977001; clear HO_977002; clear HO1009; clear HO1012; clear HO1015; clear HO1018; clear HO1022; clear HO1025; clear BK928; clear BK952; clear BK960; clear BK976; clear HB; have HO_953001 := n0_; have HO_953002 := n1_; have HO_961001 := n2_; have HO_961002 := n3_; have HO_977001 := n4_; have HO_977002 := n5_; have HO1009 := n6_; have HO1012 := n7_; have HO1015 := n8_; have HO1018 := n9_; have HO1022 := n10_; have HO1025 := n11_; have BK928 := n12_; have BK952 := n13_; have BK960 := n14_; have BK976 := n15_; have HB := n16_; have BK1028 := n17_; have GW1028 := n18_; have GE1028 := n19_; have NB928_1028 := n20_; have NB1028_928 := n21_; have NB952_1028 := n22_; have NB1028_952 := n23_; have NB960_1028 := n24_; have NB1028_960 := n25_; have NB976_1028 := n26_; have NB1028_976 := n27_; clear n0_ n1_ n2_ n3_ n4_ n5_ n6_ n7_ n8_ n9_ n10_ n11_ n12_ n13_ n14_ n15_ n16_ n17_ n18_ n19_ n20_ n21_ n22_ n23_ n24_ n25_ n26_ n27_; clear hb hbox hg; have hnb181 := NB1028_928.out; have hnc181 := NB928_1028.out; have hnb182 := NB1028_952.out; have hnc182 := NB952_1028.out; have hnb183 := NB1028_960.out; have hnc183 := NB960_1028.out; have hnb184 := NB1028_976.out; have hnc184 := NB976_1028.out; have hcz185_0 : w180.cell? ⟨gb1028, 0, none⟩ = some (.int .i64 0) := (blk_cell BK1028.out 0).trans rfl; have hcz185_1 : w180.cell? ⟨gb1028, 1, none⟩ = some (.slice none 0 0) := (blk_cell BK1028.out 1).trans rfl; have hcz185_2 : w180.cell? ⟨gb1028, 2, none⟩ = some (.slice none 0 0) := (blk_cell BK1028.out 2).trans rfl; have hfz185_0 := blk_frozen BK1028.out 0; have hfz185_1 := blk_frozen BK1028.out 1; have hfz185_2 := blk_frozen BK1028.out 2; obtain ⟨Ao186, co186, eo186⟩ := Kd.R_slice HO1022.out; subst eo186; obtain ⟨Ao187, co187, eo187⟩ := Kd.R_slice HO1025.out; subst eo187))
               (try simp only [Act.put, List.setIfInBounds_toArray, List.set_cons_zero, List.set_cons_succ])
               go_cut [150] (fun v150 wc => ∃ (kq : Nat) (x150_160 : Bool), v150 = .bool x150_160 ∧ Aside0 (laws_FnExactEqGates.j2 kq t1002 x150_160 t967 t1003 t1004 = some true) ∧ Aside0 (kq ≤ kj99) ∧ Aside0 (Kd.R k59 59 wc w.heap.size (fun k_ => some k_ ≠ ((.slice Ao45 t995.length co45) : Value).ownBlock ∧ some k_ ≠ ((.slice Ao58 t968.length co58) : Value).ownBlock ∧ some k_ ≠ ((.slice Ao186 t1020.length co186) : Value).ownBlock) (.slice Ao37 t944.length co37) t944) ∧ Aside0 (Kd.R (Kd.int .i64) 3 wc w.heap.size (fun k_ => some k_ ≠ ((.slice Ao46 t996.length co46) : Value).ownBlock ∧ some k_ ≠ ((.slice Ao59 t971.length co59) : Value).ownBlock ∧ some k_ ≠ ((.slice Ao187 t1023.length co187) : Value).ownBlock) (.slice Ao38 t947.length co38) t947) ∧ Aside0 (Kd.R k59 59 wc w.heap.size (fun k_ => some k_ ≠ ((.slice Ao37 t944.length co37) : Value).ownBlock ∧ some k_ ≠ ((.slice Ao58 t968.length co58) : Value).ownBlock ∧ some k_ ≠ ((.slice Ao186 t1020.length co186) : Value).ownBlock) (.slice Ao45 t995.length co45) t995) ∧ Aside0 (Kd.R (Kd.int .i64) 3 wc w.heap.size (fun k_ => some k_ ≠ ((.slice Ao38 t947.length co38) : Value).ownBlock ∧ some k_ ≠ ((.slice Ao59 t971.length co59) : Value).ownBlock ∧ some k_ ≠ ((.slice Ao187 t1023.length co187) : Value).ownBlock) (.slice Ao46 t996.length co46) t996) ∧ Aside0 (Kd.R k59 59 wc w.heap.size (fun k_ => some k_ ≠ ((.slice Ao37 t944.length co37) : Value).ownBlock ∧ some k_ ≠ ((.slice Ao45 t995.length co45) : Value).ownBlock ∧ some k_ ≠ ((.slice Ao186 t1020.length co186) : Value).ownBlock) (.slice Ao58 t968.length co58) t1003) ∧ Aside0 (Kd.R (Kd.int .i64) 3 wc w.heap.size (fun k_ => some k_ ≠ ((.slice Ao38 t947.length co38) : Value).ownBlock ∧ some k_ ≠ ((.slice Ao46 t996.length co46) : Value).ownBlock ∧ some k_ ≠ ((.slice Ao187 t1023.length co187) : Value).ownBlock) (.slice Ao59 t971.length co59) t1004) ∧ Aside0 (Kd.R k59 59 wc w.heap.size (fun k_ => some k_ ≠ ((.slice Ao37 t944.length co37) : Value).ownBlock ∧ some k_ ≠ ((.slice Ao45 t995.length co45) : Value).ownBlock ∧ some k_ ≠ ((.slice Ao58 t968.length co58) : Value).ownBlock) (.slice Ao186 t1020.length co186) t1020) ∧ Aside0 (Kd.R (Kd.int .i64) 3 wc w.heap.size (fun k_ => some k_ ≠ ((.slice Ao38 t947.length co38) : Value).ownBlock ∧ some k_ ≠ ((.slice Ao46 t996.length co46) : Value).ownBlock ∧ some k_ ≠ ((.slice Ao59 t971.length co59) : Value).ownBlock) (.slice Ao187 t1023.length co187) t1023) ∧ Aside0 (wc.heap[gb928]? = some (.cells #[.int .i64 a0_0, (.slice A0_1 l0_1.length c0_1), (.slice A0_2 l0_2.length c0_2)] 25 (0, 0))) ∧ Aside0 (wc.heap[gb952]? = some (.cells #[.int .i64 t943, (.slice Ao37 t944.length co37), (.slice Ao38 t947.length co38)] 30 (0, 0))) ∧ Aside0 (wc.heap[gb960]? = some (.cells #[.int .i64 t953, (.slice Ao45 t995.length co45), (.slice Ao46 t996.length co46)] 30 (0, 0))) ∧ Aside0 (wc.heap[gb976]? = some (.cells #[.int .i64 t967, (.slice Ao58 t968.length co58), (.slice Ao59 t971.length co59)] 30 (0, 0))) ∧ Aside0 (wc.heap[gb1028]? = some (.cells #[.int .i64 t1019, (.slice Ao186 t1020.length co186), (.slice Ao187 t1023.length co187)] 30 (0, 0))) ∧ Aside0 (Below w.heap.size w wc))
               case first =>
                have H := HC161.out
                clear HC161
                replace H := Option.bind_eq_some_iff.mp H
                obtain ⟨t1029, A1880, H⟩ := H
                replace H : (if t1029 = true then (if t1026 = t950 then (laws_FnExactEqGates.j2 kj99 t1002 (t1027 != t951) t967 t1003 t1004) else (laws_FnExactEqGates.j2 kj99 t1002 true t967 t1003 t1004)) else (laws_FnExactEqGates.j2 kj99 t1002 true t967 t1003 t1004)) = some true := H
                have A188 := Aside0.mk A1880
                clear A1880
                by_cases c189 : t1029 = true
                ·subst c189
                 have H1 : (if t1026 = t950 then (laws_FnExactEqGates.j2 kj99 t1002 (t1027 != t951) t967 t1003 t1004) else (laws_FnExactEqGates.j2 kj99 t1002 true t967 t1003 t1004)) = some true := by rw [if_pos rfl] at H; exact H
                 clear H
                 have H := H1
                 clear H1
                 by_cases c190 : t1026 = t950
                 ·rw [if_pos c190] at H
                  have c190b0 : (t1026 == t950) = true := beq_iff_eq.mpr c190
                  have c190b1 : (t1026 != t950) = false := bne_eq_false_iff_eq.mpr c190
                  clear c190
                  (first | rw [c190b0] | (simp only [i64_w, i32_w]; rw [c190b0]) | skip)
                  have H' := Aside0.mk H
                  clear H
                  have hnb191 := NB1028_928.out
                  have hnc191 := NB928_1028.out
                  have hnb192 := NB1028_952.out
                  have hnc192 := NB952_1028.out
                  have hnb193 := NB1028_960.out
                  have hnc193 := NB960_1028.out
                  have hnb194 := NB1028_976.out
                  have hnc194 := NB976_1028.out
                  have hcz195_0 : w180.cell? ⟨gb1028, 0, none⟩ = some (.int .i64 0) := (blk_cell BK1028.out 0).trans rfl
                  have hcz195_1 : w180.cell? ⟨gb1028, 1, none⟩ = some (.slice none 0 0) := (blk_cell BK1028.out 1).trans rfl
                  have hcz195_2 : w180.cell? ⟨gb1028, 2, none⟩ = some (.slice none 0 0) := (blk_cell BK1028.out 2).trans rfl
                  have hfz195_0 := blk_frozen BK1028.out 0
                  have hfz195_1 := blk_frozen BK1028.out 1
                  have hfz195_2 := blk_frozen BK1028.out 2
                  have hnb196 := NB952_928.out
                  have hnc196 := NB928_952.out
                  have hnb197 := NB952_960.out
                  have hnc197 := NB960_952.out
                  have hnb198 := NB952_976.out
                  have hnc198 := NB976_952.out
                  have hcz199_0 : w180.cell? ⟨gb952, 0, none⟩ = some (.int .i64 t943) := (blk_cell BK952.out 0).trans rfl
                  have hcz199_1 : w180.cell? ⟨gb952, 1, none⟩ = some (.slice Ao37 t944.length co37) := (blk_cell BK952.out 1).trans rfl
                  have hcz199_2 : w180.cell? ⟨gb952, 2, none⟩ = some (.slice Ao38 t947.length co38) := (blk_cell BK952.out 2).trans rfl
                  have hfz199_0 := blk_frozen BK952.out 0
                  have hfz199_1 := blk_frozen BK952.out 1
                  have hfz199_2 := blk_frozen BK952.out 2
                  go_wp2_with (first | ((with_reducible refine gate_callee (f := 15) rfl ?_); refine goesL_ (some 139) rfl rfl Try.func15 (by kernel_rfl) rfl #[.agg #[.int .i64 t1019, .slice Ao186 t1020.length co186, .slice Ao187 t1023.length co187], .agg #[.int .i64 t943, .slice Ao37 t944.length co37, .slice Ao38 t947.length co38]] rfl qG ?_; (with_reducible refine (laws_eqCircuit.calls kj99 t1019 _ _ t1020 _ _ t1023 t943 _ _ t944 _ _ t947 true _ ?side1 ?side2 ?side3 ?side4 ?side5 ?side6 ?side7 ?side8 A188.out).mono ?_); (case side1 => refine (Kd.R_reads' (e := 59) (base := w.heap.size) (ok := fun k_ => ((((True ∧ some k_ ≠ (.slice Ao37 t944.length co37 : Value).ownBlock) ∧ some k_ ≠ (.slice Ao45 t995.length co45 : Value).ownBlock) ∧ some k_ ≠ (.slice Ao58 t968.length co58 : Value).ownBlock) ∧ some k_ ≠ (.slice Ao175 t1007.length co175 : Value).ownBlock)) (n := t1020.length) (c := co186) ?_).2.2; exact (by (with_reducible repeat (first | apply Kd.R_alloc | apply Kd.R_drewN | apply Kd.R_drew)); exact (Kd.R_mono (Kd.R_far (p := ⟨gb1028, 2, none⟩) (Kd.R_far (p := ⟨gb1028, 1, none⟩) (Kd.R_far (p := ⟨gb1028, 0, none⟩) (Kd.R_types HO1022.out BK1028.out (by decide)) (fun _ hk => hk.2) (.int .i64 t1019)) (fun _ hk => hk.2) (.slice Ao186 t1020.length co186)) (fun _ hk => hk.2) (.slice Ao187 t1023.length co187)) (fun _ h_ => h_.1)))); (case side2 => exact (Kd.R_reads' HO1022.out).2.1); (case side3 => refine (Kd.R_reads' (e := 3) (base := w.heap.size) (ok := fun k_ => ((((((True ∧ some k_ ≠ (.slice Ao38 t947.length co38 : Value).ownBlock) ∧ some k_ ≠ (.slice Ao46 t996.length co46 : Value).ownBlock) ∧ some k_ ≠ (.slice Ao59 t971.length co59 : Value).ownBlock) ∧ some k_ ≠ (.slice Ao176 t1010.length co176 : Value).ownBlock) ∧ some k_ ≠ (.slice Ao177 t1013.length co177 : Value).ownBlock) ∧ some k_ ≠ (.slice Ao178 t1016.length co178 : Value).ownBlock)) (n := t1023.length) (c := co187) ?_).2.2; exact (by (with_reducible repeat (first | apply Kd.R_alloc | apply Kd.R_drewN | apply Kd.R_drew)); exact (Kd.R_mono (Kd.R_far (p := ⟨gb1028, 2, none⟩) (Kd.R_far (p := ⟨gb1028, 1, none⟩) (Kd.R_far (p := ⟨gb1028, 0, none⟩) (Kd.R_types HO1025.out BK1028.out (by decide)) (fun _ hk => hk.2) (.int .i64 t1019)) (fun _ hk => hk.2) (.slice Ao186 t1020.length co186)) (fun _ hk => hk.2) (.slice Ao187 t1023.length co187)) (fun _ h_ => h_.1)))); (case side4 => exact (Kd.R_reads' HO1025.out).2.1); (case side5 => refine (Kd.R_reads' (e := 59) (base := w.heap.size) (ok := fun k_ => (((some k_ ≠ (.slice Ao45 t995.length co45 : Value).ownBlock ∧ some k_ ≠ (.slice Ao58 t968.length co58 : Value).ownBlock) ∧ some k_ ≠ (.slice Ao175 t1007.length co175 : Value).ownBlock) ∧ some k_ ≠ (.slice Ao186 t1020.length co186 : Value).ownBlock)) (n := t944.length) (c := co37) ?_).2.2; exact (by (with_reducible repeat (first | apply Kd.R_alloc | apply Kd.R_drewN | apply Kd.R_drew)); exact (Kd.R_mono (Kd.R_far (p := ⟨gb1028, 2, none⟩) (Kd.R_far (p := ⟨gb1028, 1, none⟩) (Kd.R_far (p := ⟨gb1028, 0, none⟩) (Kd.R_types HO_953001.out BK1028.out (by decide)) (fun _ hk => hk.2) (.int .i64 t1019)) (fun _ hk => hk.2) (.slice Ao186 t1020.length co186)) (fun _ hk => hk.2) (.slice Ao187 t1023.length co187)) (fun _ h_ => h_.1)))); (case side6 => exact (Kd.R_reads' HO_953001.out).2.1); (case side7 => refine (Kd.R_reads' (e := 3) (base := w.heap.size) (ok := fun k_ => (((((some k_ ≠ (.slice Ao46 t996.length co46 : Value).ownBlock ∧ some k_ ≠ (.slice Ao59 t971.length co59 : Value).ownBlock) ∧ some k_ ≠ (.slice Ao176 t1010.length co176 : Value).ownBlock) ∧ some k_ ≠ (.slice Ao177 t1013.length co177 : Value).ownBlock) ∧ some k_ ≠ (.slice Ao178 t1016.length co178 : Value).ownBlock) ∧ some k_ ≠ (.slice Ao187 t1023.length co187 : Value).ownBlock)) (n := t947.length) (c := co38) ?_).2.2; exact (by (with_reducible repeat (first | apply Kd.R_alloc | apply Kd.R_drewN | apply Kd.R_drew)); exact (Kd.R_mono (Kd.R_far (p := ⟨gb1028, 2, none⟩) (Kd.R_far (p := ⟨gb1028, 1, none⟩) (Kd.R_far (p := ⟨gb1028, 0, none⟩) (Kd.R_types HO_953002.out BK1028.out (by decide)) (fun _ hk => hk.2) (.int .i64 t1019)) (fun _ hk => hk.2) (.slice Ao186 t1020.length co186)) (fun _ hk => hk.2) (.slice Ao187 t1023.length co187)) (fun _ h_ => h_.1)))); (case side8 => exact (Kd.R_reads' HO_953002.out).2.1); rintro e w200 ⟨rfl, hb⟩; refine ⟨_, rfl, ?_⟩; have n0_ := Aside0.mk (Kd.R_below (by (with_reducible repeat (first | apply Kd.R_alloc | apply Kd.R_drewN | apply Kd.R_drew)); exact (Kd.R_mono (Kd.R_far (p := ⟨gb1028, 2, none⟩) (Kd.R_far (p := ⟨gb1028, 1, none⟩) (Kd.R_far (p := ⟨gb1028, 0, none⟩) (Kd.R_types HO_953001.out BK1028.out (by decide)) (fun _ hk => hk.2) (.int .i64 t1019)) (fun _ hk => hk.2) (.slice Ao186 t1020.length co186)) (fun _ hk => hk.2) (.slice Ao187 t1023.length co187)) (fun _ h_ => h_.1))) hb); have n1_ := Aside0.mk (Kd.R_below (by (with_reducible repeat (first | apply Kd.R_alloc | apply Kd.R_drewN | apply Kd.R_drew)); exact (Kd.R_mono (Kd.R_far (p := ⟨gb1028, 2, none⟩) (Kd.R_far (p := ⟨gb1028, 1, none⟩) (Kd.R_far (p := ⟨gb1028, 0, none⟩) (Kd.R_types HO_953002.out BK1028.out (by decide)) (fun _ hk => hk.2) (.int .i64 t1019)) (fun _ hk => hk.2) (.slice Ao186 t1020.length co186)) (fun _ hk => hk.2) (.slice Ao187 t1023.length co187)) (fun _ h_ => h_.1))) hb); have n2_ := Aside0.mk (Kd.R_below (by (with_reducible repeat (first | apply Kd.R_alloc | apply Kd.R_drewN | apply Kd.R_drew)); exact (Kd.R_mono (Kd.R_far (p := ⟨gb1028, 2, none⟩) (Kd.R_far (p := ⟨gb1028, 1, none⟩) (Kd.R_far (p := ⟨gb1028, 0, none⟩) (Kd.R_types HO_961001.out BK1028.out (by decide)) (fun _ hk => hk.2) (.int .i64 t1019)) (fun _ hk => hk.2) (.slice Ao186 t1020.length co186)) (fun _ hk => hk.2) (.slice Ao187 t1023.length co187)) (fun _ h_ => h_.1))) hb); have n3_ := Aside0.mk (Kd.R_below (by (with_reducible repeat (first | apply Kd.R_alloc | apply Kd.R_drewN | apply Kd.R_drew)); exact (Kd.R_mono (Kd.R_far (p := ⟨gb1028, 2, none⟩) (Kd.R_far (p := ⟨gb1028, 1, none⟩) (Kd.R_far (p := ⟨gb1028, 0, none⟩) (Kd.R_types HO_961002.out BK1028.out (by decide)) (fun _ hk => hk.2) (.int .i64 t1019)) (fun _ hk => hk.2) (.slice Ao186 t1020.length co186)) (fun _ hk => hk.2) (.slice Ao187 t1023.length co187)) (fun _ h_ => h_.1))) hb); have n4_ := Aside0.mk (Kd.R_below (by (with_reducible repeat (first | apply Kd.R_alloc | apply Kd.R_drewN | apply Kd.R_drew)); exact (Kd.R_mono (Kd.R_far (p := ⟨gb1028, 2, none⟩) (Kd.R_far (p := ⟨gb1028, 1, none⟩) (Kd.R_far (p := ⟨gb1028, 0, none⟩) (Kd.R_types HO_977001.out BK1028.out (by decide)) (fun _ hk => hk.2) (.int .i64 t1019)) (fun _ hk => hk.2) (.slice Ao186 t1020.length co186)) (fun _ hk => hk.2) (.slice Ao187 t1023.length co187)) (fun _ h_ => h_.1))) hb); have n5_ := Aside0.mk (Kd.R_below (by (with_reducible repeat (first | apply Kd.R_alloc | apply Kd.R_drewN | apply Kd.R_drew)); exact (Kd.R_mono (Kd.R_far (p := ⟨gb1028, 2, none⟩) (Kd.R_far (p := ⟨gb1028, 1, none⟩) (Kd.R_far (p := ⟨gb1028, 0, none⟩) (Kd.R_types HO_977002.out BK1028.out (by decide)) (fun _ hk => hk.2) (.int .i64 t1019)) (fun _ hk => hk.2) (.slice Ao186 t1020.length co186)) (fun _ hk => hk.2) (.slice Ao187 t1023.length co187)) (fun _ h_ => h_.1))) hb); have n6_ := Aside0.mk (Kd.R_below (by (with_reducible repeat (first | apply Kd.R_alloc | apply Kd.R_drewN | apply Kd.R_drew)); exact (Kd.R_mono (Kd.R_far (p := ⟨gb1028, 2, none⟩) (Kd.R_far (p := ⟨gb1028, 1, none⟩) (Kd.R_far (p := ⟨gb1028, 0, none⟩) (Kd.R_types HO1009.out BK1028.out (by decide)) (fun _ hk => hk.2) (.int .i64 t1019)) (fun _ hk => hk.2) (.slice Ao186 t1020.length co186)) (fun _ hk => hk.2) (.slice Ao187 t1023.length co187)) (fun _ h_ => h_.1))) hb); have n7_ := Aside0.mk (Kd.R_below (by (with_reducible repeat (first | apply Kd.R_alloc | apply Kd.R_drewN | apply Kd.R_drew)); exact (Kd.R_mono (Kd.R_far (p := ⟨gb1028, 2, none⟩) (Kd.R_far (p := ⟨gb1028, 1, none⟩) (Kd.R_far (p := ⟨gb1028, 0, none⟩) (Kd.R_types HO1012.out BK1028.out (by decide)) (fun _ hk => hk.2) (.int .i64 t1019)) (fun _ hk => hk.2) (.slice Ao186 t1020.length co186)) (fun _ hk => hk.2) (.slice Ao187 t1023.length co187)) (fun _ h_ => h_.1))) hb); have n8_ := Aside0.mk (Kd.R_below (by (with_reducible repeat (first | apply Kd.R_alloc | apply Kd.R_drewN | apply Kd.R_drew)); exact (Kd.R_mono (Kd.R_far (p := ⟨gb1028, 2, none⟩) (Kd.R_far (p := ⟨gb1028, 1, none⟩) (Kd.R_far (p := ⟨gb1028, 0, none⟩) (Kd.R_types HO1015.out BK1028.out (by decide)) (fun _ hk => hk.2) (.int .i64 t1019)) (fun _ hk => hk.2) (.slice Ao186 t1020.length co186)) (fun _ hk => hk.2) (.slice Ao187 t1023.length co187)) (fun _ h_ => h_.1))) hb); have n9_ := Aside0.mk (Kd.R_below (by (with_reducible repeat (first | apply Kd.R_alloc | apply Kd.R_drewN | apply Kd.R_drew)); exact (Kd.R_mono (Kd.R_far (p := ⟨gb1028, 2, none⟩) (Kd.R_far (p := ⟨gb1028, 1, none⟩) (Kd.R_far (p := ⟨gb1028, 0, none⟩) (Kd.R_types HO1018.out BK1028.out (by decide)) (fun _ hk => hk.2) (.int .i64 t1019)) (fun _ hk => hk.2) (.slice Ao186 t1020.length co186)) (fun _ hk => hk.2) (.slice Ao187 t1023.length co187)) (fun _ h_ => h_.1))) hb); have n10_ := Aside0.mk (Kd.R_below (by (with_reducible repeat (first | apply Kd.R_alloc | apply Kd.R_drewN | apply Kd.R_drew)); exact (Kd.R_mono (Kd.R_far (p := ⟨gb1028, 2, none⟩) (Kd.R_far (p := ⟨gb1028, 1, none⟩) (Kd.R_far (p := ⟨gb1028, 0, none⟩) (Kd.R_types HO1022.out BK1028.out (by decide)) (fun _ hk => hk.2) (.int .i64 t1019)) (fun _ hk => hk.2) (.slice Ao186 t1020.length co186)) (fun _ hk => hk.2) (.slice Ao187 t1023.length co187)) (fun _ h_ => h_.1))) hb); have n11_ := Aside0.mk (Kd.R_below (by (with_reducible repeat (first | apply Kd.R_alloc | apply Kd.R_drewN | apply Kd.R_drew)); exact (Kd.R_mono (Kd.R_far (p := ⟨gb1028, 2, none⟩) (Kd.R_far (p := ⟨gb1028, 1, none⟩) (Kd.R_far (p := ⟨gb1028, 0, none⟩) (Kd.R_types HO1025.out BK1028.out (by decide)) (fun _ hk => hk.2) (.int .i64 t1019)) (fun _ hk => hk.2) (.slice Ao186 t1020.length co186)) (fun _ hk => hk.2) (.slice Ao187 t1023.length co187)) (fun _ h_ => h_.1))) hb); have n12_ := Aside0.mk (blk_below (g := gb928) (o := .cells #[.int .i64 a0_0, .slice A0_1 l0_1.length c0_1, .slice A0_2 l0_2.length c0_2] 25 (0, 0)) (qF BK928.out) hb); have n13_ := Aside0.mk (blk_below (g := gb952) (o := .cells #[.int .i64 t943, .slice Ao37 t944.length co37, .slice Ao38 t947.length co38] 30 (0, 0)) (qF BK952.out) hb); have n14_ := Aside0.mk (blk_below (g := gb960) (o := .cells #[.int .i64 t953, .slice Ao45 t995.length co45, .slice Ao46 t996.length co46] 30 (0, 0)) (qF BK960.out) hb); have n15_ := Aside0.mk (blk_below (g := gb976) (o := .cells #[.int .i64 t967, .slice Ao58 t968.length co58, .slice Ao59 t971.length co59] 30 (0, 0)) (qF BK976.out) hb); have n16_ := Aside0.mk (blk_below (g := gb1028) (o := .cells #[.int .i64 t1019, .slice Ao186 t1020.length co186, .slice Ao187 t1023.length co187] 30 (0, 0)) (by (with_reducible repeat (first | refine blk_drewN ?_ _ | refine blk_drew ?_ | refine blk_alloc ?_ _)); refine blk_put (cs := #[.int .i64 t1019, .slice Ao186 t1020.length co186, .slice none 0 0]) ?_ 2 _ rfl; refine blk_put (cs := #[.int .i64 t1019, .slice none 0 0, .slice none 0 0]) ?_ 1 _ rfl; refine blk_put (cs := #[.int .i64 0, .slice none 0 0, .slice none 0 0]) ?_ 0 _ rfl; exact qK BK1028.out) hb); have n17_ := Aside0.mk (below_step (qB) hb); clear HO_953001; clear HO_953002; clear HO_961001; clear HO_961002; clear HO_977001; clear HO_977002; clear HO1009; clear HO1012; clear HO1015; clear HO1018; clear HO1022; clear HO1025; clear BK928; clear BK952; clear BK960; clear BK976; clear BK1028; clear HB; have HO_953001 := n0_; have HO_953002 := n1_; have HO_961001 := n2_; have HO_961002 := n3_; have HO_977001 := n4_; have HO_977002 := n5_; have HO1009 := n6_; have HO1012 := n7_; have HO1015 := n8_; have HO1018 := n9_; have HO1022 := n10_; have HO1025 := n11_; have BK928 := n12_; have BK952 := n13_; have BK960 := n14_; have BK976 := n15_; have BK1028 := n16_; have HB := n17_; clear n0_ n1_ n2_ n3_ n4_ n5_ n6_ n7_ n8_ n9_ n10_ n11_ n12_ n13_ n14_ n15_ n16_ n17_; (try clear hb); (try clear hb2); (try clear hk); (try clear hi)))
                  go_meet
                  case rel => exact ⟨_, ((t1027 != t951)), qS, H', ⟨by have := HJ20.out; have := HJ99.out; first | omega | exact Nat.le_refl _⟩, ⟨by (try simp only [hl961001_99]); (try simp only [hl961002_99]); (with_reducible repeat (first | apply Kd.R_alloc | apply Kd.R_drewN | apply Kd.R_drew)); exact Kd.R_mono HO_953001.out (fun _ hk => ⟨hk.1.1.1, ⟨hk.1.1.2, hk.2⟩⟩)⟩, ⟨by (try simp only [hl961001_99]); (try simp only [hl961002_99]); (with_reducible repeat (first | apply Kd.R_alloc | apply Kd.R_drewN | apply Kd.R_drew)); exact Kd.R_mono HO_953002.out (fun _ hk => ⟨hk.1.1.1.1.1, ⟨hk.1.1.1.1.2, hk.2⟩⟩)⟩, ⟨by (try simp only [hl961001_99]); (try simp only [hl961002_99]); (with_reducible repeat (first | apply Kd.R_alloc | apply Kd.R_drewN | apply Kd.R_drew)); exact Kd.R_mono HO_961001.out (fun _ hk => ⟨hk.1.1.1, ⟨hk.1.1.2, hk.2⟩⟩)⟩, ⟨by (try simp only [hl961001_99]); (try simp only [hl961002_99]); (with_reducible repeat (first | apply Kd.R_alloc | apply Kd.R_drewN | apply Kd.R_drew)); exact Kd.R_mono HO_961002.out (fun _ hk => ⟨hk.1.1.1.1.1, ⟨hk.1.1.1.1.2, hk.2⟩⟩)⟩, ⟨by (try simp only [hl961001_99]); (try simp only [hl961002_99]); (with_reducible repeat (first | apply Kd.R_alloc | apply Kd.R_drewN | apply Kd.R_drew)); exact Kd.R_mono HO_977001.out (fun _ hk => ⟨hk.1.1.1, ⟨hk.1.1.2, hk.2⟩⟩)⟩, ⟨by (try simp only [hl961001_99]); (try simp only [hl961002_99]); (with_reducible repeat (first | apply Kd.R_alloc | apply Kd.R_drewN | apply Kd.R_drew)); exact Kd.R_mono HO_977002.out (fun _ hk => ⟨hk.1.1.1.1.1, ⟨hk.1.1.1.1.2, hk.2⟩⟩)⟩, ⟨by (try simp only [hl961001_99]); (try simp only [hl961002_99]); (with_reducible repeat (first | apply Kd.R_alloc | apply Kd.R_drewN | apply Kd.R_drew)); exact Kd.R_mono HO1022.out (fun _ hk => ⟨hk.1.1.1.2, ⟨hk.1.1.2, hk.1.2⟩⟩)⟩, ⟨by (try simp only [hl961001_99]); (try simp only [hl961002_99]); (with_reducible repeat (first | apply Kd.R_alloc | apply Kd.R_drewN | apply Kd.R_drew)); exact Kd.R_mono HO1025.out (fun _ hk => ⟨hk.1.1.1.1.1.2, ⟨hk.1.1.1.1.2, hk.1.1.1.2⟩⟩)⟩, ⟨by (try simp only [hl961001_99]); (try simp only [hl961002_99]); exact qK BK928.out⟩, ⟨by (try simp only [hl961001_99]); (try simp only [hl961002_99]); exact qK BK952.out⟩, ⟨by (try simp only [hl961001_99]); (try simp only [hl961002_99]); exact qK BK960.out⟩, ⟨by (try simp only [hl961001_99]); (try simp only [hl961002_99]); exact qK BK976.out⟩, ⟨by (try simp only [hl961001_99]); (try simp only [hl961002_99]); exact qK BK1028.out⟩, ⟨qB⟩⟩
                 ·rw [if_neg c190] at H
                  exact absurd H (by cases kj99 <;> simp [laws_FnExactEqGates.j2])
                ·replace c189 := Bool.eq_false_iff.mpr c189
                 subst c189
                 have H1 : (laws_FnExactEqGates.j2 kj99 t1002 true t967 t1003 t1004) = some true := by rw [if_neg (show ¬ (false = true) by decide)] at H; exact H
                 exact absurd H1 (by cases kj99 <;> simp [laws_FnExactEqGates.j2])
               case rest =>
                clear HC161
                try clear c1
                try clear c2
                try clear p2
                try clear c3
                try clear c4
                try clear c4b0
                try clear c4b1
                try clear c5
                try clear c6
                try clear c6b0
                try clear c6b1
                try clear c7
                try clear c8
                try clear c9
                try clear c9b0
                try clear c10
                try clear c11
                try clear c12
                try clear c13
                try clear c14
                try clear c15
                try clear c16
                try clear c17
                try clear c18
                try clear c19
                try clear c20
                try clear c21
                try clear c27
                try clear c28
                try clear c32
                try clear c34
                try clear c35
                try clear c38
                try clear c39
                try clear c42
                try clear c43
                try clear c54
                try clear c55
                try clear c56
                try clear c61
                try clear c62
                try clear c62b0
                try clear c62b1
                try clear c63
                try clear c64
                try clear c65
                try clear c67
                try clear c68
                try clear c71
                try clear c72
                try clear c73
                try clear c75
                try clear c76
                try clear c79
                try clear c80
                try clear c81
                try clear c83
                try clear c84
                try clear c87
                try clear c90
                try clear c93
                try clear c96
                try clear c110
                try clear c111
                try clear c112
                try clear c117
                try clear c117b0
                try clear c119
                try clear c120
                try clear c120b0
                try clear c120b1
                try clear c121
                try clear c122
                try clear c123
                try clear c125
                try clear c126
                try clear c129
                try clear c130
                try clear c131
                try clear c133
                try clear c134
                try clear c137
                try clear c138
                try clear c139
                try clear c141
                try clear c142
                try clear c145
                try clear c148
                try clear c148b0
                try clear c149
                try clear c150
                try clear c151
                try clear c156
                try clear c156b0
                try clear c156b1
                try clear c162
                try clear c163
                try clear c164
                try clear c169
                try clear c170
                try clear c181
                try clear c182
                try clear c183
                try clear c184
                try clear c189
                try clear c190
                try clear c190b0
                try clear c190b1
                try clear c191
                try clear c192
                try clear c193
                try clear c194
                try clear c196
                try clear c197
                try clear c198
                try clear c201
                try clear c202
                try clear c203
                try clear c204
                try clear c206
                try clear c207
                try clear c208
                try clear c211
                try clear c212
                try clear c213
                try clear c214
                try clear c216
                try clear c217
                try clear c218
                try clear hcz113_0
                try clear hcz113_1
                try clear hcz113_2
                try clear hcz11_0
                try clear hcz11_1
                try clear hcz11_2
                try clear hcz124_0
                try clear hcz124_1
                try clear hcz124_2
                try clear hcz127_0
                try clear hcz127_1
                try clear hcz127_2
                try clear hcz132_0
                try clear hcz132_1
                try clear hcz132_2
                try clear hcz135_0
                try clear hcz135_1
                try clear hcz135_2
                try clear hcz140_0
                try clear hcz140_1
                try clear hcz140_2
                try clear hcz143_0
                try clear hcz143_1
                try clear hcz143_2
                try clear hcz152_0
                try clear hcz152_1
                try clear hcz152_2
                try clear hcz154_0
                try clear hcz154_1
                try clear hcz154_2
                try clear hcz165_0
                try clear hcz165_1
                try clear hcz165_2
                try clear hcz167_0
                try clear hcz167_1
                try clear hcz167_2
                try clear hcz171_0
                try clear hcz171_1
                try clear hcz171_2
                try clear hcz185_0
                try clear hcz185_1
                try clear hcz185_2
                try clear hcz195_0
                try clear hcz195_1
                try clear hcz195_2
                try clear hcz199_0
                try clear hcz199_1
                try clear hcz199_2
                try clear hcz205_0
                try clear hcz205_1
                try clear hcz205_2
                try clear hcz209_0
                try clear hcz209_1
                try clear hcz209_2
                try clear hcz215_0
                try clear hcz215_1
                try clear hcz215_2
                try clear hcz219_0
                try clear hcz219_1
                try clear hcz219_2
                try clear hcz23_0
                try clear hcz23_1
                try clear hcz23_2
                try clear hcz25_0
                try clear hcz25_1
                try clear hcz25_2
                try clear hcz36_0
                try clear hcz36_1
                try clear hcz36_2
                try clear hcz39_0
                try clear hcz39_1
                try clear hcz39_2
                try clear hcz44_0
                try clear hcz44_1
                try clear hcz44_2
                try clear hcz49_0
                try clear hcz49_1
                try clear hcz49_2
                try clear hcz57_0
                try clear hcz57_1
                try clear hcz57_2
                try clear hcz66_0
                try clear hcz66_1
                try clear hcz66_2
                try clear hcz69_0
                try clear hcz69_1
                try clear hcz69_2
                try clear hcz74_0
                try clear hcz74_1
                try clear hcz74_2
                try clear hcz77_0
                try clear hcz77_1
                try clear hcz77_2
                try clear hcz82_0
                try clear hcz82_1
                try clear hcz82_2
                try clear hcz85_0
                try clear hcz85_1
                try clear hcz85_2
                try clear hfz113_0
                try clear hfz113_1
                try clear hfz113_2
                try clear hfz11_0
                try clear hfz11_1
                try clear hfz11_2
                try clear hfz124_0
                try clear hfz124_1
                try clear hfz124_2
                try clear hfz127_0
                try clear hfz127_1
                try clear hfz127_2
                try clear hfz132_0
                try clear hfz132_1
                try clear hfz132_2
                try clear hfz135_0
                try clear hfz135_1
                try clear hfz135_2
                try clear hfz140_0
                try clear hfz140_1
                try clear hfz140_2
                try clear hfz143_0
                try clear hfz143_1
                try clear hfz143_2
                try clear hfz152_0
                try clear hfz152_1
                try clear hfz152_2
                try clear hfz154_0
                try clear hfz154_1
                try clear hfz154_2
                try clear hfz165_0
                try clear hfz165_1
                try clear hfz165_2
                try clear hfz167_0
                try clear hfz167_1
                try clear hfz167_2
                try clear hfz171_0
                try clear hfz171_1
                try clear hfz171_2
                try clear hfz185_0
                try clear hfz185_1
                try clear hfz185_2
                try clear hfz195_0
                try clear hfz195_1
                try clear hfz195_2
                try clear hfz199_0
                try clear hfz199_1
                try clear hfz199_2
                try clear hfz205_0
                try clear hfz205_1
                try clear hfz205_2
                try clear hfz209_0
                try clear hfz209_1
                try clear hfz209_2
                try clear hfz215_0
                try clear hfz215_1
                try clear hfz215_2
                try clear hfz219_0
                try clear hfz219_1
                try clear hfz219_2
                try clear hfz23_0
                try clear hfz23_1
                try clear hfz23_2
                try clear hfz25_0
                try clear hfz25_1
                try clear hfz25_2
                try clear hfz36_0
                try clear hfz36_1
                try clear hfz36_2
                try clear hfz39_0
                try clear hfz39_1
                try clear hfz39_2
                try clear hfz44_0
                try clear hfz44_1
                try clear hfz44_2
                try clear hfz49_0
                try clear hfz49_1
                try clear hfz49_2
                try clear hfz57_0
                try clear hfz57_1
                try clear hfz57_2
                try clear hfz66_0
                try clear hfz66_1
                try clear hfz66_2
                try clear hfz69_0
                try clear hfz69_1
                try clear hfz69_2
                try clear hfz74_0
                try clear hfz74_1
                try clear hfz74_2
                try clear hfz77_0
                try clear hfz77_1
                try clear hfz77_2
                try clear hfz82_0
                try clear hfz82_1
                try clear hfz82_2
                try clear hfz85_0
                try clear hfz85_1
                try clear hfz85_2
                try clear p2
                obtain ⟨kq, x150_160, rfl, HA, HJ160, HO_953001, HO_953002, HO_961001, HO_961002, HO_977001, HO_977002, HO_1029001, HO_1029002, BK928, BK952, BK960, BK976, BK1028, HB⟩ := hcut
                have hl977001_160 := (Kd.R_reads' HO_977001.out).1
                rw [hl977001_160] at HO_977001
                (try simp only [hl977001_160])
                (try simp only [hl977001_160] at BK928)
                (try simp only [hl977001_160] at BK952)
                (try simp only [hl977001_160] at BK960)
                (try simp only [hl977001_160] at BK976)
                (try simp only [hl977001_160] at BK1028)
                (try simp only [hl977001_160] at HO_953001)
                (try simp only [hl977001_160] at HO_953002)
                (try simp only [hl977001_160] at HO_961001)
                (try simp only [hl977001_160] at HO_961002)
                (try simp only [hl977001_160] at HO_977002)
                (try simp only [hl977001_160] at HO_1029001)
                (try simp only [hl977001_160] at HO_1029002)
                have hl977002_160 := (Kd.R_reads' HO_977002.out).1
                rw [hl977002_160] at HO_977002
                (try simp only [hl977002_160])
                (try simp only [hl977002_160] at BK928)
                (try simp only [hl977002_160] at BK952)
                (try simp only [hl977002_160] at BK960)
                (try simp only [hl977002_160] at BK976)
                (try simp only [hl977002_160] at BK1028)
                (try simp only [hl977002_160] at HO_953001)
                (try simp only [hl977002_160] at HO_953002)
                (try simp only [hl977002_160] at HO_961001)
                (try simp only [hl977002_160] at HO_961002)
                (try simp only [hl977002_160] at HO_977001)
                (try simp only [hl977002_160] at HO_1029001)
                (try simp only [hl977002_160] at HO_1029002)
                cases kq with
                | zero => exact absurd HA.out (by simp [laws_FnExactEqGates.j2])
                | succ kj160 =>
                 have H := HA.out
                 clear HA
                 simp only [laws_FnExactEqGates.j2] at H
                 by_cases c221 : x150_160 = true
                 ·subst c221
                  have H1 : (some false) = some true := by rw [if_pos rfl] at H; exact H
                  exact absurd H1 (by simp)
                 ·replace c221 := Bool.eq_false_iff.mpr c221
                  subst c221
                  have H1 : ((laws_heldCircuit.f kj160 t967 t1003 t1004 1).bind fun t1030 => (if t1030 < 0 then (some false) else (if t1030 = t1002 then (some true) else (some false)))) = some true := by rw [if_neg (show ¬ (false = true) by decide)] at H; exact H
                  clear H
                  have H := H1
                  clear H1
                  replace H := Option.bind_eq_some_iff.mp H
                  obtain ⟨t1030, A2220, H⟩ := H
                  replace H : (if t1030 < 0 then (some false) else (if t1030 = t1002 then (some true) else (some false))) = some true := H
                  have A222 := Aside0.mk A2220
                  clear A2220
                  by_cases c223 : t1030 < 0
                  ·rw [if_pos c223] at H
                   exact absurd H (by simp)
                  ·rw [if_neg c223] at H
                   have c223b0 : decide (t1030 < 0) = false := decide_eq_false c223
                   clear c223
                   by_cases c230 : t1030 = t1002
                   ·rw [if_pos c230] at H
                    have c230b0 : (t1030 == t1002) = true := beq_iff_eq.mpr c230
                    have c230b1 : (t1030 != t1002) = false := bne_eq_false_iff_eq.mpr c230
                    clear c230
                    have hnb231 := NB976_928.out
                    have hnc231 := NB928_976.out
                    have hnb232 := NB976_952.out
                    have hnc232 := NB952_976.out
                    have hnb233 := NB976_960.out
                    have hnc233 := NB960_976.out
                    have hnb234 := NB976_1028.out
                    have hnc234 := NB1028_976.out
                    have hcz235_0 : wc.cell? ⟨gb976, 0, none⟩ = some (.int .i64 t967) := (blk_cell BK976.out 0).trans rfl
                    have hcz235_1 : wc.cell? ⟨gb976, 1, none⟩ = some (.slice Ao58 t1003.length co58) := (blk_cell BK976.out 1).trans rfl
                    have hcz235_2 : wc.cell? ⟨gb976, 2, none⟩ = some (.slice Ao59 t1004.length co59) := (blk_cell BK976.out 2).trans rfl
                    have hfz235_0 := blk_frozen BK976.out 0
                    have hfz235_1 := blk_frozen BK976.out 1
                    have hfz235_2 := blk_frozen BK976.out 2
                    go_wp2_with (first | ((with_reducible refine gate_callee (f := 32) rfl ?_); refine goesL_ (some 153) rfl rfl Try.func32 (by kernel_rfl) rfl #[.agg #[.int .i64 t967, .slice Ao58 t1003.length co58, .slice Ao59 t1004.length co59], .int .i64 1] rfl qG ?_; (with_reducible refine (laws_heldCircuit.calls kj160 t967 _ _ t1003 _ _ t1004 1 t1030 _ ?side1 ?side2 ?side3 ?side4 A222.out).mono ?_); (case side1 => repeat (first | exact (Kd.R_reads' HO_977001.out).2.2 | (with_reducible refine Kd.C_alloc ?_ _) | (with_reducible refine Kd.C_drewN ?_ _) | (with_reducible refine Kd.C_drew ?_))); (case side2 => exact (Kd.R_reads' HO_977001.out).2.1); (case side3 => repeat (first | exact (Kd.R_reads' HO_977002.out).2.2 | (with_reducible refine Kd.C_alloc ?_ _) | (with_reducible refine Kd.C_drewN ?_ _) | (with_reducible refine Kd.C_drew ?_))); (case side4 => exact (Kd.R_reads' HO_977002.out).2.1); rintro e w236 ⟨rfl, hb⟩; refine ⟨_, rfl, ?_⟩; have n0_ := Aside0.mk (Kd.R_below (qR HO_953001.out) hb); have n1_ := Aside0.mk (Kd.R_below (qR HO_953002.out) hb); have n2_ := Aside0.mk (Kd.R_below (qR HO_961001.out) hb); have n3_ := Aside0.mk (Kd.R_below (qR HO_961002.out) hb); have n4_ := Aside0.mk (Kd.R_below (qR HO_977001.out) hb); have n5_ := Aside0.mk (Kd.R_below (qR HO_977002.out) hb); have n6_ := Aside0.mk (Kd.R_below (qR HO_1029001.out) hb); have n7_ := Aside0.mk (Kd.R_below (qR HO_1029002.out) hb); have n8_ := Aside0.mk (blk_below (g := gb928) (o := .cells #[.int .i64 a0_0, .slice A0_1 l0_1.length c0_1, .slice A0_2 l0_2.length c0_2] 25 (0, 0)) (qK BK928.out) hb); have n9_ := Aside0.mk (blk_below (g := gb952) (o := .cells #[.int .i64 t943, .slice Ao37 t944.length co37, .slice Ao38 t947.length co38] 30 (0, 0)) (qK BK952.out) hb); have n10_ := Aside0.mk (blk_below (g := gb960) (o := .cells #[.int .i64 t953, .slice Ao45 t995.length co45, .slice Ao46 t996.length co46] 30 (0, 0)) (qK BK960.out) hb); have n11_ := Aside0.mk (blk_below (g := gb976) (o := .cells #[.int .i64 t967, .slice Ao58 t1003.length co58, .slice Ao59 t1004.length co59] 30 (0, 0)) (qK BK976.out) hb); have n12_ := Aside0.mk (blk_below (g := gb1028) (o := .cells #[.int .i64 t1019, .slice Ao186 t1020.length co186, .slice Ao187 t1023.length co187] 30 (0, 0)) (qK BK1028.out) hb); have n13_ := Aside0.mk (below_step (qB) hb); clear HO_953001; clear HO_953002; clear HO_961001; clear HO_961002; clear HO_977001; clear HO_977002; clear HO_1029001; clear HO_1029002; clear BK928; clear BK952; clear BK960; clear BK976; clear BK1028; clear HB; have HO_953001 := n0_; have HO_953002 := n1_; have HO_961001 := n2_; have HO_961002 := n3_; have HO_977001 := n4_; have HO_977002 := n5_; have HO_1029001 := n6_; have HO_1029002 := n7_; have BK928 := n8_; have BK952 := n9_; have BK960 := n10_; have BK976 := n11_; have BK1028 := n12_; have HB := n13_; clear n0_ n1_ n2_ n3_ n4_ n5_ n6_ n7_ n8_ n9_ n10_ n11_ n12_ n13_; (try clear hb); (try clear hb2); (try clear hk); (try clear hi)))
                    go_ret
                    exact ⟨qE, qB⟩
                   ·rw [if_neg c230] at H
                    exact absurd H (by simp)
              ·rw [if_neg c156] at H
               exact absurd H (by simp)
         ·replace c96 := Bool.eq_false_iff.mpr c96
          subst c96
          have H1 : (some false) = some true := by rw [if_neg (show ¬ (false = true) by decide)] at H; exact H
          exact absurd H1 (by simp)
        ·replace c93 := Bool.eq_false_iff.mpr c93
         subst c93
         have H1 : (some false) = some true := by rw [if_neg (show ¬ (false = true) by decide)] at H; exact H
         exact absurd H1 (by simp)
       ·replace c90 := Bool.eq_false_iff.mpr c90
        subst c90
        have H1 : (some false) = some true := by rw [if_neg (show ¬ (false = true) by decide)] at H; exact H
        exact absurd H1 (by simp)
/-- THE PURE STATEMENT of laws_FnExactEqGates. -/
def laws_FnExactEqGates.Pure : Prop := ∀ (a0_0 : Int) (l0_1 : List (S82)) (l0_2 : List Int) (l1 : List Int) (l2 : List Int), (Lit.int .i64 a0_0).wf = true → ((l0_1).length ≤ maxLen ∧ ∀ y ∈ l0_1, wf82 y) → ((l0_2).length ≤ maxLen ∧ ∀ y ∈ l0_2, (Lit.int .i64 y).wf = true) → ((l1).length ≤ maxLen ∧ ∀ y ∈ l1, (Lit.int .i64 y).wf = true) → ((l2).length ≤ maxLen ∧ ∀ y ∈ l2, (Lit.int .i64 y).wf = true) → ∃ k, laws_FnExactEqGates.f k a0_0 l0_1 l0_2 l1 l2 = some true
theorem laws_FnExactEqGates.walk (P : laws_FnExactEqGates.Pure) (a0_0 : Int) (A0_1 : Option Addr) (c0_1 : Nat) (l0_1 : List (S82)) (A0_2 : Option Addr) (c0_2 : Nat) (l0_2 : List Int) (A1 : Option Addr) (c1 : Nat) (l1 : List Int) (A2 : Option Addr) (c2 : Nat) (l2 : List Int) (w : World) (hr0_1 : Kd.C k82 w A0_1 l0_1.length l0_1) (hc0_1 : l0_1.length ≤ c0_1) (hr0_2 : Kd.C (Kd.int .i64) w A0_2 l0_2.length l0_2) (hc0_2 : l0_2.length ≤ c0_2) (hr1 : Kd.C (Kd.int .i64) w A1 l1.length l1) (hc1 : l1.length ≤ c1) (hr2 : Kd.C (Kd.int .i64) w A2 l2.length l2) (hc2 : l2.length ≤ c2) (w0_0 : (Lit.int .i64 a0_0).wf = true) (w0_1 : ((l0_1).length ≤ maxLen ∧ ∀ y ∈ l0_1, wf82 y)) (w0_2 : ((l0_2).length ≤ maxLen ∧ ∀ y ∈ l0_2, (Lit.int .i64 y).wf = true)) (w1 : ((l1).length ≤ maxLen ∧ ∀ y ∈ l1, (Lit.int .i64 y).wf = true)) (w2 : ((l2).length ≤ maxLen ∧ ∀ y ∈ l2, (Lit.int .i64 y).wf = true)) :
  Calls Try.prog 10 #[.agg #[.int .i64 a0_0, .slice A0_1 l0_1.length c0_1, .slice A0_2 l0_2.length c0_2], .slice A1 l1.length c1, .slice A2 l2.length c2] w fun e w' => e = .returned (.bool true) ∧ Below w.heap.size w w' := by
 obtain ⟨k, h⟩ := P a0_0 l0_1 l0_2 l1 l2 w0_0 w0_1 w0_2 w1 w2
 refine (laws_FnExactEqGates.calls k a0_0 A0_1 c0_1 l0_1 A0_2 c0_2 l0_2 A1 c1 l1 A2 c2 l2 true w hr0_1 hc0_1 hr0_2 hc0_2 hr1 hc1 hr2 hc2 h).mono ?_
 rintro e w' ⟨rfl, hd⟩
 exact ⟨rfl, hd⟩

end Go.Proofs.Ytimkjhdopncimaa.X
