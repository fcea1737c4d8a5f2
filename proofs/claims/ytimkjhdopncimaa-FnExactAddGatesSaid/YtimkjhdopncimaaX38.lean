/- Go functions as Lean functions, each with the proof that its call comes to just its answer. Conditions: the arguments are of their kinds. -/
import Derived.Test.YtimkjhdopncimaaX0
import Derived.Test.YtimkjhdopncimaaX1
import Derived.Test.YtimkjhdopncimaaX5
import Derived.Test.YtimkjhdopncimaaX11
import Derived.Test.YtimkjhdopncimaaX13
import Derived.Test.YtimkjhdopncimaaX25
import Derived.Test.YtimkjhdopncimaaX32
import Derived.Test.YtimkjhdopncimaaX36
import Derived.Test.YtimkjhdopncimaaXO
namespace Go.Proofs.Ytimkjhdopncimaa.X
open Go.RowKit Go.Proofs.YtimkjhdopncimaaW.PrintWords Go.Proofs.YtimkjhdopncimaaW.PrintLast Go.Proofs.YtimkjhdopncimaaW.PrintMore
attribute [local go_sem] max2_int min2_int max_two min_two max_three min_three max_four min_four   -- for this text's walks alone
set_option linter.unusedVariables false
set_option linter.unusedSimpArgs false

/-! ### laws_FnExactAddGates: function 8 -/
mutual
def laws_FnExactAddGates.j0 : Nat → List Int → List Int → Int → List Int → Bool → List Int → List Int → List Int → Bool → Bool → Int → List (S82) → List Int → Int → List (S59) → List Int → Int → List (S59) → List Int → Int → List (S59) → List Int → Option (Bool)
 | 0, _, _, _, _, _, _, _, _, _, _, _, _, _, _, _, _, _, _, _, _, _, _ => none
 | k + 1, x1, x2, x3, x11, x12, x14, x15, x17, x18, x77, x710000, x710001, x710002, x736000, x736001, x736002, x744000, x744001, x744002, x762000, x762001, x762002 => if x77 = true then (some false) else ((laws_toCircuit.f k x710000 x710001 x710002).bind fun bt764 => ((laws_eqCircuit.f k x744000 x744001 x744002 bt764.1 bt764.2.1 bt764.2.2).bind fun t771 => (if t771 = true then ((laws_toIntS.f k x1).bind fun t772 => ((laws_eqIntS.f k x14 t772).bind fun t775 => (if t775 = true then ((laws_toIntS.f k x2).bind fun t776 => ((laws_eqIntS.f k x15 t776).bind fun t779 => (if t779 = true then ((laws_markCircuit.f k x744000 x744001 x744002 1).bind fun bt780 => ((laws_markIntS.f k x14 bt780.1).bind fun bt783 => ((laws_markIntS.f k x15 bt783.1).bind fun bt785 => (if bt785.1 < 0 then (laws_FnExactAddGates.j1 k x1 x2 x3 x11 x12 x17 true x710000 x710001 x710002 x736000 x736001 x736002 x762000 x762001 x762002) else ((laws_eqCircuit.f k x762000 x762001 x762002 x736000 x736001 x736002).bind fun t787 => (if t787 = true then ((laws_eqIntS.f k x17 x11).bind fun t788 => (if t788 = true then (laws_FnExactAddGates.j1 k x1 x2 x3 x11 x12 x17 (x18 != x12) x710000 x710001 x710002 x736000 x736001 x736002 x762000 x762001 x762002) else (laws_FnExactAddGates.j1 k x1 x2 x3 x11 x12 x17 true x710000 x710001 x710002 x736000 x736001 x736002 x762000 x762001 x762002))) else (laws_FnExactAddGates.j1 k x1 x2 x3 x11 x12 x17 true x710000 x710001 x710002 x736000 x736001 x736002 x762000 x762001 x762002))))))) else (some false)))) else (some false)))) else (some false))))
def laws_FnExactAddGates.j1 : Nat → List Int → List Int → Int → List Int → Bool → List Int → Bool → Int → List (S82) → List Int → Int → List (S59) → List Int → Int → List (S59) → List Int → Option (Bool)
 | 0, _, _, _, _, _, _, _, _, _, _, _, _, _, _, _, _ => none
 | k + 1, x1, x2, x3, x11, x12, x17, x120, x710000, x710001, x710002, x736000, x736001, x736002, x762000, x762001, x762002 => if x120 = true then (some false) else ((laws_markCircuit.f k x762000 x762001 x762002 1).bind fun bt789 => ((laws_markIntS.f k x17 bt789.1).bind fun bt792 => ((laws_heldCircuit.f k x762000 bt789.2.1 bt789.2.2 1).bind fun t794 => (if t794 < 0 then (some false) else ((laws_heldIntS.f k bt792.2 t794).bind fun t795 => (if t795 < 0 then (some false) else (if t795 = bt792.1 then ((laws_toCircuit.f k x710000 x710001 x710002).bind fun bt796 => ((laws_toIntS.f k x1).bind fun t803 => ((laws_toIntS.f k x2).bind fun t806 => ((impl_AddGates.f k bt796.1 bt796.2.1 bt796.2.2 t803 t806 x3).bind fun bt809 => ((laws_eqCircuit.f k bt809.1 bt809.2.1 bt809.2.2.1 x736000 x736001 x736002).bind fun t821 => (if t821 = true then ((laws_eqIntS.f k bt809.2.2.2.1 x11).bind fun t822 => (if t822 = true then (laws_FnExactAddGates.j2 k bt792.2 bt792.1 (bt809.2.2.2.2 != x12) x762000 bt789.2.1 bt789.2.2) else (laws_FnExactAddGates.j2 k bt792.2 bt792.1 true x762000 bt789.2.1 bt789.2.2))) else (laws_FnExactAddGates.j2 k bt792.2 bt792.1 true x762000 bt789.2.1 bt789.2.2))))))) else (some false))))))))
def laws_FnExactAddGates.j2 : Nat → List Int → Int → Bool → Int → List (S59) → List Int → Option (Bool)
 | 0, _, _, _, _, _, _ => none
 | k + 1, x17, x20, x166, x762000, x762001, x762002 => if x166 = true then (some false) else ((laws_heldCircuit.f k x762000 x762001 x762002 1).bind fun t823 => (if t823 < 0 then (some false) else ((laws_heldIntS.f k x17 t823).bind fun t824 => (if t824 < 0 then (some false) else (if t824 = x20 then (some true) else (some false))))))
end
def laws_FnExactAddGates.f (k : Nat) (a0_0 : Int) (l0_1 : List (S82)) (l0_2 : List Int) (l1 : List Int) (l2 : List Int) (a3 : Int) : Option (Bool) := if (l1.length : Int) > 1048576 then (some true) else (if (l2.length : Int) > 1048576 then (some true) else ((laws_szCircuit.f a0_0 l0_1 l0_2 1048576).bind fun t710 => (if t710 < 0 then (some true) else ((laws_toCircuit.f k a0_0 l0_1 l0_2).bind fun bt711 => ((laws_toIntS.f k l1).bind fun t718 => ((laws_toIntS.f k l2).bind fun t721 => ((spec_AddGates.f k bt711.1 bt711.2.1 bt711.2.2 t718 t721 a3).bind fun bt724 => ((laws_toCircuit.f k a0_0 l0_1 l0_2).bind fun bt736 => ((laws_toIntS.f k l1).bind fun t744 => ((laws_toIntS.f k l2).bind fun t747 => ((impl_AddGates.f k bt736.1 bt736.2.1 bt736.2.2 t744 t747 a3).bind fun bt750 => ((laws_eqCircuit.f k bt750.1 bt750.2.1 bt750.2.2.1 bt724.1 bt724.2.1 bt724.2.2.1).bind fun t762 => (if t762 = true then ((laws_eqIntS.f k bt750.2.2.2.1 bt724.2.2.2.1).bind fun t763 => (if t763 = true then (laws_FnExactAddGates.j0 k l1 l2 a3 bt724.2.2.2.1 bt724.2.2.2.2 t744 t747 bt750.2.2.2.1 bt750.2.2.2.2 (bt750.2.2.2.2 != bt724.2.2.2.2) a0_0 l0_1 l0_2 bt724.1 bt724.2.1 bt724.2.2.1 bt736.1 bt736.2.1 bt736.2.2 bt750.1 bt750.2.1 bt750.2.2.1) else (laws_FnExactAddGates.j0 k l1 l2 a3 bt724.2.2.2.1 bt724.2.2.2.2 t744 t747 bt750.2.2.2.1 bt750.2.2.2.2 true a0_0 l0_1 l0_2 bt724.1 bt724.2.1 bt724.2.2.1 bt736.1 bt736.2.1 bt736.2.2 bt750.1 bt750.2.1 bt750.2.2.1))) else (laws_FnExactAddGates.j0 k l1 l2 a3 bt724.2.2.2.1 bt724.2.2.2.2 t744 t747 bt750.2.2.2.1 bt750.2.2.2.2 true a0_0 l0_1 l0_2 bt724.1 bt724.2.1 bt724.2.2.1 bt736.1 bt736.2.1 bt736.2.2 bt750.1 bt750.2.1 bt750.2.2.1))))))))))))))
theorem laws_FnExactAddGates.mono_l : ∀ k, (∀ y0 y1 y2 y3 y4 y5 y6 y7 y8 y9 y10 y11 y12 y13 y14 y15 y16 y17 y18 y19 y20 y21, LeO (laws_FnExactAddGates.j0 k y0 y1 y2 y3 y4 y5 y6 y7 y8 y9 y10 y11 y12 y13 y14 y15 y16 y17 y18 y19 y20 y21) (laws_FnExactAddGates.j0 (k + 1) y0 y1 y2 y3 y4 y5 y6 y7 y8 y9 y10 y11 y12 y13 y14 y15 y16 y17 y18 y19 y20 y21)) ∧ (∀ y0 y1 y2 y3 y4 y5 y6 y7 y8 y9 y10 y11 y12 y13 y14 y15, LeO (laws_FnExactAddGates.j1 k y0 y1 y2 y3 y4 y5 y6 y7 y8 y9 y10 y11 y12 y13 y14 y15) (laws_FnExactAddGates.j1 (k + 1) y0 y1 y2 y3 y4 y5 y6 y7 y8 y9 y10 y11 y12 y13 y14 y15)) ∧ (∀ y0 y1 y2 y3 y4 y5, LeO (laws_FnExactAddGates.j2 k y0 y1 y2 y3 y4 y5) (laws_FnExactAddGates.j2 (k + 1) y0 y1 y2 y3 y4 y5))
 | 0 => ⟨fun _ _ _ _ _ _ _ _ _ _ _ _ _ _ _ _ _ _ _ _ _ _ r h => by simp [laws_FnExactAddGates.j0] at h, fun _ _ _ _ _ _ _ _ _ _ _ _ _ _ _ _ r h => by simp [laws_FnExactAddGates.j1] at h, fun _ _ _ _ _ _ r h => by simp [laws_FnExactAddGates.j2] at h⟩
 | k + 1 => by
  obtain ⟨ih0, ih1, ih2⟩ := laws_FnExactAddGates.mono_l k
  refine ⟨?_, ?_, ?_⟩
  ·intro y0 y1 y2 y3 y4 y5 y6 y7 y8 y9 y10 y11 y12 y13 y14 y15 y16 y17 y18 y19 y20 y21
   unfold laws_FnExactAddGates.j0
   repeat' first
   | (with_reducible exact ih0 _ _ _ _ _ _ _ _ _ _ _ _ _ _ _ _ _ _ _ _ _ _)
   | (with_reducible exact ih1 _ _ _ _ _ _ _ _ _ _ _ _ _ _ _ _)
   | (with_reducible exact ih2 _ _ _ _ _ _)
   | (with_reducible exact impl_AddGates.mono _ _ _ _ _ _ _)
   | (with_reducible exact laws_eqCircuit.mono _ _ _ _ _ _ _)
   | (with_reducible exact laws_eqIntS.mono _ _ _)
   | (with_reducible exact laws_heldCircuit.mono _ _ _ _ _)
   | (with_reducible exact laws_heldIntS.mono _ _ _)
   | (with_reducible exact laws_markCircuit.mono _ _ _ _ _)
   | (with_reducible exact laws_markIntS.mono _ _ _)
   | (with_reducible exact laws_toCircuit.mono _ _ _ _)
   | (with_reducible exact laws_toIntS.mono _ _)
   | (with_reducible exact spec_AddGates.mono _ _ _ _ _ _ _)
   | (with_reducible first | exact LeO.refl _ | exact LeO.none _ | refine LeO.ite ?_ ?_ | refine LeO.bind ?_ (fun _ => ?_))
   | exact ih0 _ _ _ _ _ _ _ _ _ _ _ _ _ _ _ _ _ _ _ _ _ _
   | exact ih1 _ _ _ _ _ _ _ _ _ _ _ _ _ _ _ _
   | exact ih2 _ _ _ _ _ _
   | exact impl_AddGates.mono _ _ _ _ _ _ _
   | exact laws_eqCircuit.mono _ _ _ _ _ _ _
   | exact laws_eqIntS.mono _ _ _
   | exact laws_heldCircuit.mono _ _ _ _ _
   | exact laws_heldIntS.mono _ _ _
   | exact laws_markCircuit.mono _ _ _ _ _
   | exact laws_markIntS.mono _ _ _
   | exact laws_toCircuit.mono _ _ _ _
   | exact laws_toIntS.mono _ _
   | exact spec_AddGates.mono _ _ _ _ _ _ _
   | exact LeO.none _ | refine LeO.ite ?_ ?_ | refine LeO.bind ?_ (fun _ => ?_)
  ·intro y0 y1 y2 y3 y4 y5 y6 y7 y8 y9 y10 y11 y12 y13 y14 y15
   unfold laws_FnExactAddGates.j1
   repeat' first
   | (with_reducible exact ih0 _ _ _ _ _ _ _ _ _ _ _ _ _ _ _ _ _ _ _ _ _ _)
   | (with_reducible exact ih1 _ _ _ _ _ _ _ _ _ _ _ _ _ _ _ _)
   | (with_reducible exact ih2 _ _ _ _ _ _)
   | (with_reducible exact impl_AddGates.mono _ _ _ _ _ _ _)
   | (with_reducible exact laws_eqCircuit.mono _ _ _ _ _ _ _)
   | (with_reducible exact laws_eqIntS.mono _ _ _)
   | (with_reducible exact laws_heldCircuit.mono _ _ _ _ _)
   | (with_reducible exact laws_heldIntS.mono _ _ _)
   | (with_reducible exact laws_markCircuit.mono _ _ _ _ _)
   | (with_reducible exact laws_markIntS.mono _ _ _)
   | (with_reducible exact laws_toCircuit.mono _ _ _ _)
   | (with_reducible exact laws_toIntS.mono _ _)
   | (with_reducible exact spec_AddGates.mono _ _ _ _ _ _ _)
   | (with_reducible first | exact LeO.refl _ | exact LeO.none _ | refine LeO.ite ?_ ?_ | refine LeO.bind ?_ (fun _ => ?_))
   | exact ih0 _ _ _ _ _ _ _ _ _ _ _ _ _ _ _ _ _ _ _ _ _ _
   | exact ih1 _ _ _ _ _ _ _ _ _ _ _ _ _ _ _ _
   | exact ih2 _ _ _ _ _ _
   | exact impl_AddGates.mono _ _ _ _ _ _ _
   | exact laws_eqCircuit.mono _ _ _ _ _ _ _
   | exact laws_eqIntS.mono _ _ _
   | exact laws_heldCircuit.mono _ _ _ _ _
   | exact laws_heldIntS.mono _ _ _
   | exact laws_markCircuit.mono _ _ _ _ _
   | exact laws_markIntS.mono _ _ _
   | exact laws_toCircuit.mono _ _ _ _
   | exact laws_toIntS.mono _ _
   | exact spec_AddGates.mono _ _ _ _ _ _ _
   | exact LeO.none _ | refine LeO.ite ?_ ?_ | refine LeO.bind ?_ (fun _ => ?_)
  ·intro y0 y1 y2 y3 y4 y5
   unfold laws_FnExactAddGates.j2
   repeat' first
   | (with_reducible exact ih0 _ _ _ _ _ _ _ _ _ _ _ _ _ _ _ _ _ _ _ _ _ _)
   | (with_reducible exact ih1 _ _ _ _ _ _ _ _ _ _ _ _ _ _ _ _)
   | (with_reducible exact ih2 _ _ _ _ _ _)
   | (with_reducible exact impl_AddGates.mono _ _ _ _ _ _ _)
   | (with_reducible exact laws_eqCircuit.mono _ _ _ _ _ _ _)
   | (with_reducible exact laws_eqIntS.mono _ _ _)
   | (with_reducible exact laws_heldCircuit.mono _ _ _ _ _)
   | (with_reducible exact laws_heldIntS.mono _ _ _)
   | (with_reducible exact laws_markCircuit.mono _ _ _ _ _)
   | (with_reducible exact laws_markIntS.mono _ _ _)
   | (with_reducible exact laws_toCircuit.mono _ _ _ _)
   | (with_reducible exact laws_toIntS.mono _ _)
   | (with_reducible exact spec_AddGates.mono _ _ _ _ _ _ _)
   | (with_reducible first | exact LeO.refl _ | exact LeO.none _ | refine LeO.ite ?_ ?_ | refine LeO.bind ?_ (fun _ => ?_))
   | exact ih0 _ _ _ _ _ _ _ _ _ _ _ _ _ _ _ _ _ _ _ _ _ _
   | exact ih1 _ _ _ _ _ _ _ _ _ _ _ _ _ _ _ _
   | exact ih2 _ _ _ _ _ _
   | exact impl_AddGates.mono _ _ _ _ _ _ _
   | exact laws_eqCircuit.mono _ _ _ _ _ _ _
   | exact laws_eqIntS.mono _ _ _
   | exact laws_heldCircuit.mono _ _ _ _ _
   | exact laws_heldIntS.mono _ _ _
   | exact laws_markCircuit.mono _ _ _ _ _
   | exact laws_markIntS.mono _ _ _
   | exact laws_toCircuit.mono _ _ _ _
   | exact laws_toIntS.mono _ _
   | exact spec_AddGates.mono _ _ _ _ _ _ _
   | exact LeO.none _ | refine LeO.ite ?_ ?_ | refine LeO.bind ?_ (fun _ => ?_)
theorem laws_FnExactAddGates.mono : ∀ a0 a1 a2 a3 a4 a5 k, LeO (laws_FnExactAddGates.f k a0 a1 a2 a3 a4 a5) (laws_FnExactAddGates.f (k + 1) a0 a1 a2 a3 a4 a5) := by
 intro a0 a1 a2 a3 a4 a5 k
 obtain ⟨ih0, ih1, ih2⟩ := laws_FnExactAddGates.mono_l k
 unfold laws_FnExactAddGates.f
 repeat' first
   | (with_reducible exact ih0 _ _ _ _ _ _ _ _ _ _ _ _ _ _ _ _ _ _ _ _ _ _)
   | (with_reducible exact ih1 _ _ _ _ _ _ _ _ _ _ _ _ _ _ _ _)
   | (with_reducible exact ih2 _ _ _ _ _ _)
   | (with_reducible exact impl_AddGates.mono _ _ _ _ _ _ _)
   | (with_reducible exact laws_eqCircuit.mono _ _ _ _ _ _ _)
   | (with_reducible exact laws_eqIntS.mono _ _ _)
   | (with_reducible exact laws_heldCircuit.mono _ _ _ _ _)
   | (with_reducible exact laws_heldIntS.mono _ _ _)
   | (with_reducible exact laws_markCircuit.mono _ _ _ _ _)
   | (with_reducible exact laws_markIntS.mono _ _ _)
   | (with_reducible exact laws_toCircuit.mono _ _ _ _)
   | (with_reducible exact laws_toIntS.mono _ _)
   | (with_reducible exact spec_AddGates.mono _ _ _ _ _ _ _)
   | (with_reducible first | exact LeO.refl _ | exact LeO.none _ | refine LeO.ite ?_ ?_ | refine LeO.bind ?_ (fun _ => ?_))
   | exact ih0 _ _ _ _ _ _ _ _ _ _ _ _ _ _ _ _ _ _ _ _ _ _
   | exact ih1 _ _ _ _ _ _ _ _ _ _ _ _ _ _ _ _
   | exact ih2 _ _ _ _ _ _
   | exact impl_AddGates.mono _ _ _ _ _ _ _
   | exact laws_eqCircuit.mono _ _ _ _ _ _ _
   | exact laws_eqIntS.mono _ _ _
   | exact laws_heldCircuit.mono _ _ _ _ _
   | exact laws_heldIntS.mono _ _ _
   | exact laws_markCircuit.mono _ _ _ _ _
   | exact laws_markIntS.mono _ _ _
   | exact laws_toCircuit.mono _ _ _ _
   | exact laws_toIntS.mono _ _
   | exact spec_AddGates.mono _ _ _ _ _ _ _
   | exact LeO.none _ | refine LeO.ite ?_ ?_ | refine LeO.bind ?_ (fun _ => ?_)
set_option maxHeartbeats 8000000 in
set_option maxRecDepth 100000 in
theorem laws_FnExactAddGates.calls (k : Nat) (a0_0 : Int) (A0_1 : Option Addr) (c0_1 : Nat) (l0_1 : List (S82)) (A0_2 : Option Addr) (c0_2 : Nat) (l0_2 : List Int) (A1 : Option Addr) (c1 : Nat) (l1 : List Int) (A2 : Option Addr) (c2 : Nat) (l2 : List Int) (a3 : Int) (r : Bool) (w : World) (hr0_1 : Kd.C k82 w A0_1 l0_1.length l0_1) (hc0_1 : l0_1.length ≤ c0_1) (hr0_2 : Kd.C (Kd.int .i64) w A0_2 l0_2.length l0_2) (hc0_2 : l0_2.length ≤ c0_2) (hr1 : Kd.C (Kd.int .i64) w A1 l1.length l1) (hc1 : l1.length ≤ c1) (hr2 : Kd.C (Kd.int .i64) w A2 l2.length l2) (hc2 : l2.length ≤ c2) (h : laws_FnExactAddGates.f k a0_0 l0_1 l0_2 l1 l2 a3 = some true) :
  Calls Try.prog 8 #[.agg #[.int .i64 a0_0, .slice A0_1 l0_1.length c0_1, .slice A0_2 l0_2.length c0_2], .slice A1 l1.length c1, .slice A2 l2.length c2, .int .i64 a3] w fun e w' => e = .returned (.bool true) ∧ Below w.heap.size w w' := by
 have hu25 := Try.underlying25
 have hu30 := Try.underlying30
 have HR0_1 := Aside0.mk hr0_1
 have HC0_1 := Aside0.mk hc0_1
 clear hr0_1 hc0_1
 have HR0_2 := Aside0.mk hr0_2
 have HC0_2 := Aside0.mk hc0_2
 clear hr0_2 hc0_2
 have HR1 := Aside0.mk hr1
 have HC1 := Aside0.mk hc1
 clear hr1 hc1
 have HR2 := Aside0.mk hr2
 have HC2 := Aside0.mk hc2
 clear hr2 hc2
 have HB := Aside0.mk (Below.refl w.heap.size w)
 have H : (if (l1.length : Int) > 1048576 then (some true) else (if (l2.length : Int) > 1048576 then (some true) else ((laws_szCircuit.f a0_0 l0_1 l0_2 1048576).bind fun t710 => (if t710 < 0 then (some true) else ((laws_toCircuit.f k a0_0 l0_1 l0_2).bind fun bt711 => ((laws_toIntS.f k l1).bind fun t718 => ((laws_toIntS.f k l2).bind fun t721 => ((spec_AddGates.f k bt711.1 bt711.2.1 bt711.2.2 t718 t721 a3).bind fun bt724 => ((laws_toCircuit.f k a0_0 l0_1 l0_2).bind fun bt736 => ((laws_toIntS.f k l1).bind fun t744 => ((laws_toIntS.f k l2).bind fun t747 => ((impl_AddGates.f k bt736.1 bt736.2.1 bt736.2.2 t744 t747 a3).bind fun bt750 => ((laws_eqCircuit.f k bt750.1 bt750.2.1 bt750.2.2.1 bt724.1 bt724.2.1 bt724.2.2.1).bind fun t762 => (if t762 = true then ((laws_eqIntS.f k bt750.2.2.2.1 bt724.2.2.2.1).bind fun t763 => (if t763 = true then (laws_FnExactAddGates.j0 k l1 l2 a3 bt724.2.2.2.1 bt724.2.2.2.2 t744 t747 bt750.2.2.2.1 bt750.2.2.2.2 (bt750.2.2.2.2 != bt724.2.2.2.2) a0_0 l0_1 l0_2 bt724.1 bt724.2.1 bt724.2.2.1 bt736.1 bt736.2.1 bt736.2.2 bt750.1 bt750.2.1 bt750.2.2.1) else (laws_FnExactAddGates.j0 k l1 l2 a3 bt724.2.2.2.1 bt724.2.2.2.2 t744 t747 bt750.2.2.2.1 bt750.2.2.2.2 true a0_0 l0_1 l0_2 bt724.1 bt724.2.1 bt724.2.2.1 bt736.1 bt736.2.1 bt736.2.2 bt750.1 bt750.2.1 bt750.2.2.1))) else (laws_FnExactAddGates.j0 k l1 l2 a3 bt724.2.2.2.1 bt724.2.2.2.2 t744 t747 bt750.2.2.2.1 bt750.2.2.2.2 true a0_0 l0_1 l0_2 bt724.1 bt724.2.1 bt724.2.2.1 bt736.1 bt736.2.1 bt736.2.2 bt750.1 bt750.2.1 bt750.2.2.1))))))))))))))) = some true := h
 clear h
 by_cases c5 : (l1.length : Int) > 1048576
 ·rw [if_pos c5] at H
  have c5b0 : decide (1048576 < (l1.length : Int)) = true := decide_eq_true c5
  have c5b1 : decide (1048576 < l1.length) = true := decide_eq_true (by omega)
  clear c5
  go_enter Try.func8, Try.ntmps8
  go_wp2_with (first | ((with_reducible refine gate_dst (N := 4) rfl ?_); refine box_event ?hg (N := 4) ?hd (cs := #[.int .i64 a0_0, .slice A0_1 l0_1.length c0_1, .slice A0_2 l0_2.length c0_2]) (t := 25) ?hr ?_; (case hd => rfl); (case hg => rfl); (case hr => first | (go_simp; done) | (go_simp; rfl)); intro gb709 hg w6 hbox hb; have n0_ := Aside0.mk (below_step (qB) hb); have n1_ := Aside0.mk (hbox); have n2_ := Aside0.mk ((by rw [hg]; exact (below_size (qB)) : w.heap.size ≤ gb709)); have n3_ := Aside0.mk ((by rw [hg]; exact (below_size (qB)) : w.heap.size ≤ gb709)); clear HB; have HB := n0_; have BK709 := n1_; have GW709 := n2_; have GE709 := n3_; clear n0_ n1_ n2_ n3_; clear hb hbox hg))
  go_ret
  exact ⟨qE, qB⟩
 ·rw [if_neg c5] at H
  have c5b0 : decide (1048576 < (l1.length : Int)) = false := decide_eq_false c5
  have c5b1 : decide (1048576 < l1.length) = false := decide_eq_false (by omega)
  clear c5
  by_cases c7 : (l2.length : Int) > 1048576
  ·rw [if_pos c7] at H
   have c7b0 : decide (1048576 < (l2.length : Int)) = true := decide_eq_true c7
   have c7b1 : decide (1048576 < l2.length) = true := decide_eq_true (by omega)
   clear c7
   go_enter Try.func8, Try.ntmps8
   go_wp2_with (first | ((with_reducible refine gate_dst (N := 4) rfl ?_); refine box_event ?hg (N := 4) ?hd (cs := #[.int .i64 a0_0, .slice A0_1 l0_1.length c0_1, .slice A0_2 l0_2.length c0_2]) (t := 25) ?hr ?_; (case hd => rfl); (case hg => rfl); (case hr => first | (go_simp; done) | (go_simp; rfl)); intro gb709 hg w8 hbox hb; have n0_ := Aside0.mk (below_step (qB) hb); have n1_ := Aside0.mk (hbox); have n2_ := Aside0.mk ((by rw [hg]; exact (below_size (qB)) : w.heap.size ≤ gb709)); have n3_ := Aside0.mk ((by rw [hg]; exact (below_size (qB)) : w.heap.size ≤ gb709)); clear HB; have HB := n0_; have BK709 := n1_; have GW709 := n2_; have GE709 := n3_; clear n0_ n1_ n2_ n3_; clear hb hbox hg))
   go_ret
   exact ⟨qE, qB⟩
  ·rw [if_neg c7] at H
   have c7b0 : decide (1048576 < (l2.length : Int)) = false := decide_eq_false c7
   have c7b1 : decide (1048576 < l2.length) = false := decide_eq_false (by omega)
   clear c7
   replace H := Option.bind_eq_some_iff.mp H
   obtain ⟨t710, A90, H⟩ := H
   replace H : (if t710 < 0 then (some true) else ((laws_toCircuit.f k a0_0 l0_1 l0_2).bind fun bt711 => ((laws_toIntS.f k l1).bind fun t718 => ((laws_toIntS.f k l2).bind fun t721 => ((spec_AddGates.f k bt711.1 bt711.2.1 bt711.2.2 t718 t721 a3).bind fun bt724 => ((laws_toCircuit.f k a0_0 l0_1 l0_2).bind fun bt736 => ((laws_toIntS.f k l1).bind fun t744 => ((laws_toIntS.f k l2).bind fun t747 => ((impl_AddGates.f k bt736.1 bt736.2.1 bt736.2.2 t744 t747 a3).bind fun bt750 => ((laws_eqCircuit.f k bt750.1 bt750.2.1 bt750.2.2.1 bt724.1 bt724.2.1 bt724.2.2.1).bind fun t762 => (if t762 = true then ((laws_eqIntS.f k bt750.2.2.2.1 bt724.2.2.2.1).bind fun t763 => (if t763 = true then (laws_FnExactAddGates.j0 k l1 l2 a3 bt724.2.2.2.1 bt724.2.2.2.2 t744 t747 bt750.2.2.2.1 bt750.2.2.2.2 (bt750.2.2.2.2 != bt724.2.2.2.2) a0_0 l0_1 l0_2 bt724.1 bt724.2.1 bt724.2.2.1 bt736.1 bt736.2.1 bt736.2.2 bt750.1 bt750.2.1 bt750.2.2.1) else (laws_FnExactAddGates.j0 k l1 l2 a3 bt724.2.2.2.1 bt724.2.2.2.2 t744 t747 bt750.2.2.2.1 bt750.2.2.2.2 true a0_0 l0_1 l0_2 bt724.1 bt724.2.1 bt724.2.2.1 bt736.1 bt736.2.1 bt736.2.2 bt750.1 bt750.2.1 bt750.2.2.1))) else (laws_FnExactAddGates.j0 k l1 l2 a3 bt724.2.2.2.1 bt724.2.2.2.2 t744 t747 bt750.2.2.2.1 bt750.2.2.2.2 true a0_0 l0_1 l0_2 bt724.1 bt724.2.1 bt724.2.2.1 bt736.1 bt736.2.1 bt736.2.2 bt750.1 bt750.2.1 bt750.2.2.1)))))))))))) = some true := H
   have A9 := Aside0.mk A90
   clear A90
   by_cases c10 : t710 < 0
   ·rw [if_pos c10] at H
    have c10b0 : decide (t710 < 0) = true := decide_eq_true c10
    clear c10
    go_enter Try.func8, Try.ntmps8
    go_wp2_with (first | ((with_reducible refine gate_dst (N := 4) rfl ?_); refine box_event ?hg (N := 4) ?hd (cs := #[.int .i64 a0_0, .slice A0_1 l0_1.length c0_1, .slice A0_2 l0_2.length c0_2]) (t := 25) ?hr ?_; (case hd => rfl); (case hg => rfl); (case hr => first | (go_simp; done) | (go_simp; rfl)); intro gb709 hg w11 hbox hb; have n0_ := Aside0.mk (below_step (qB) hb); have n1_ := Aside0.mk (hbox); have n2_ := Aside0.mk ((by rw [hg]; exact (below_size (qB)) : w.heap.size ≤ gb709)); have n3_ := Aside0.mk ((by rw [hg]; exact (below_size (qB)) : w.heap.size ≤ gb709)); clear HB; have HB := n0_; have BK709 := n1_; have GW709 := n2_; have GE709 := n3_; clear n0_ n1_ n2_ n3_; clear hb hbox hg; have hcz12_0 : w11.cell? ⟨gb709, 0, none⟩ = some (.int .i64 a0_0) := (blk_cell BK709.out 0).trans rfl; have hcz12_1 : w11.cell? ⟨gb709, 1, none⟩ = some (.slice A0_1 l0_1.length c0_1) := (blk_cell BK709.out 1).trans rfl; have hcz12_2 : w11.cell? ⟨gb709, 2, none⟩ = some (.slice A0_2 l0_2.length c0_2) := (blk_cell BK709.out 2).trans rfl; have hfz12_0 := blk_frozen BK709.out 0; have hfz12_1 := blk_frozen BK709.out 1; have hfz12_2 := blk_frozen BK709.out 2) | ((with_reducible refine gate_callee (f := 11) rfl ?_); refine goesL_ (some 33) rfl rfl Try.func11 (by kernel_rfl) rfl #[.agg #[.int .i64 a0_0, .slice A0_1 l0_1.length c0_1, .slice A0_2 l0_2.length c0_2], .int .i64 1048576] rfl qG ?_; (with_reducible refine (laws_szCircuit.calls a0_0 _ _ l0_1 _ _ l0_2 1048576 t710 _ ?side1 ?side2 ?side3 ?side4 A9.out).mono ?_); (case side1 => exact qC (Kd.C_below HR0_1.out HB.out)); (case side2 => exact HC0_1.out); (case side3 => exact qC (Kd.C_below HR0_2.out HB.out)); (case side4 => exact HC0_2.out); rintro e w13 ⟨rfl, hb⟩; refine ⟨_, rfl, ?_⟩; have n0_ := Aside0.mk (blk_below (g := gb709) (o := .cells #[.int .i64 a0_0, .slice A0_1 l0_1.length c0_1, .slice A0_2 l0_2.length c0_2] 25 (0, 0)) (qK BK709.out) hb); have n1_ := Aside0.mk (below_step (qB) hb); clear BK709; clear HB; have BK709 := n0_; have HB := n1_; clear n0_ n1_; (try clear hb); (try clear hb2); (try clear hk); (try clear hi)))
    go_ret
    exact ⟨qE, qB⟩
   ·rw [if_neg c10] at H
    have c10b0 : decide (t710 < 0) = false := decide_eq_false c10
    clear c10
    replace H := Option.bind_eq_some_iff.mp H
    obtain ⟨⟨t711, t712, t715⟩, A140, H⟩ := H
    replace H : ((laws_toIntS.f k l1).bind fun t718 => ((laws_toIntS.f k l2).bind fun t721 => ((spec_AddGates.f k t711 t712 t715 t718 t721 a3).bind fun bt724 => ((laws_toCircuit.f k a0_0 l0_1 l0_2).bind fun bt736 => ((laws_toIntS.f k l1).bind fun t744 => ((laws_toIntS.f k l2).bind fun t747 => ((impl_AddGates.f k bt736.1 bt736.2.1 bt736.2.2 t744 t747 a3).bind fun bt750 => ((laws_eqCircuit.f k bt750.1 bt750.2.1 bt750.2.2.1 bt724.1 bt724.2.1 bt724.2.2.1).bind fun t762 => (if t762 = true then ((laws_eqIntS.f k bt750.2.2.2.1 bt724.2.2.2.1).bind fun t763 => (if t763 = true then (laws_FnExactAddGates.j0 k l1 l2 a3 bt724.2.2.2.1 bt724.2.2.2.2 t744 t747 bt750.2.2.2.1 bt750.2.2.2.2 (bt750.2.2.2.2 != bt724.2.2.2.2) a0_0 l0_1 l0_2 bt724.1 bt724.2.1 bt724.2.2.1 bt736.1 bt736.2.1 bt736.2.2 bt750.1 bt750.2.1 bt750.2.2.1) else (laws_FnExactAddGates.j0 k l1 l2 a3 bt724.2.2.2.1 bt724.2.2.2.2 t744 t747 bt750.2.2.2.1 bt750.2.2.2.2 true a0_0 l0_1 l0_2 bt724.1 bt724.2.1 bt724.2.2.1 bt736.1 bt736.2.1 bt736.2.2 bt750.1 bt750.2.1 bt750.2.2.1))) else (laws_FnExactAddGates.j0 k l1 l2 a3 bt724.2.2.2.1 bt724.2.2.2.2 t744 t747 bt750.2.2.2.1 bt750.2.2.2.2 true a0_0 l0_1 l0_2 bt724.1 bt724.2.1 bt724.2.2.1 bt736.1 bt736.2.1 bt736.2.2 bt750.1 bt750.2.1 bt750.2.2.1)))))))))) = some true := H
    have A14 := Aside0.mk A140
    clear A140
    replace H := Option.bind_eq_some_iff.mp H
    obtain ⟨t718, A150, H⟩ := H
    replace H : ((laws_toIntS.f k l2).bind fun t721 => ((spec_AddGates.f k t711 t712 t715 t718 t721 a3).bind fun bt724 => ((laws_toCircuit.f k a0_0 l0_1 l0_2).bind fun bt736 => ((laws_toIntS.f k l1).bind fun t744 => ((laws_toIntS.f k l2).bind fun t747 => ((impl_AddGates.f k bt736.1 bt736.2.1 bt736.2.2 t744 t747 a3).bind fun bt750 => ((laws_eqCircuit.f k bt750.1 bt750.2.1 bt750.2.2.1 bt724.1 bt724.2.1 bt724.2.2.1).bind fun t762 => (if t762 = true then ((laws_eqIntS.f k bt750.2.2.2.1 bt724.2.2.2.1).bind fun t763 => (if t763 = true then (laws_FnExactAddGates.j0 k l1 l2 a3 bt724.2.2.2.1 bt724.2.2.2.2 t744 t747 bt750.2.2.2.1 bt750.2.2.2.2 (bt750.2.2.2.2 != bt724.2.2.2.2) a0_0 l0_1 l0_2 bt724.1 bt724.2.1 bt724.2.2.1 bt736.1 bt736.2.1 bt736.2.2 bt750.1 bt750.2.1 bt750.2.2.1) else (laws_FnExactAddGates.j0 k l1 l2 a3 bt724.2.2.2.1 bt724.2.2.2.2 t744 t747 bt750.2.2.2.1 bt750.2.2.2.2 true a0_0 l0_1 l0_2 bt724.1 bt724.2.1 bt724.2.2.1 bt736.1 bt736.2.1 bt736.2.2 bt750.1 bt750.2.1 bt750.2.2.1))) else (laws_FnExactAddGates.j0 k l1 l2 a3 bt724.2.2.2.1 bt724.2.2.2.2 t744 t747 bt750.2.2.2.1 bt750.2.2.2.2 true a0_0 l0_1 l0_2 bt724.1 bt724.2.1 bt724.2.2.1 bt736.1 bt736.2.1 bt736.2.2 bt750.1 bt750.2.1 bt750.2.2.1))))))))) = some true := H
    have A15 := Aside0.mk A150
    clear A150
    replace H := Option.bind_eq_some_iff.mp H
    obtain ⟨t721, A160, H⟩ := H
    replace H : ((spec_AddGates.f k t711 t712 t715 t718 t721 a3).bind fun bt724 => ((laws_toCircuit.f k a0_0 l0_1 l0_2).bind fun bt736 => ((laws_toIntS.f k l1).bind fun t744 => ((laws_toIntS.f k l2).bind fun t747 => ((impl_AddGates.f k bt736.1 bt736.2.1 bt736.2.2 t744 t747 a3).bind fun bt750 => ((laws_eqCircuit.f k bt750.1 bt750.2.1 bt750.2.2.1 bt724.1 bt724.2.1 bt724.2.2.1).bind fun t762 => (if t762 = true then ((laws_eqIntS.f k bt750.2.2.2.1 bt724.2.2.2.1).bind fun t763 => (if t763 = true then (laws_FnExactAddGates.j0 k l1 l2 a3 bt724.2.2.2.1 bt724.2.2.2.2 t744 t747 bt750.2.2.2.1 bt750.2.2.2.2 (bt750.2.2.2.2 != bt724.2.2.2.2) a0_0 l0_1 l0_2 bt724.1 bt724.2.1 bt724.2.2.1 bt736.1 bt736.2.1 bt736.2.2 bt750.1 bt750.2.1 bt750.2.2.1) else (laws_FnExactAddGates.j0 k l1 l2 a3 bt724.2.2.2.1 bt724.2.2.2.2 t744 t747 bt750.2.2.2.1 bt750.2.2.2.2 true a0_0 l0_1 l0_2 bt724.1 bt724.2.1 bt724.2.2.1 bt736.1 bt736.2.1 bt736.2.2 bt750.1 bt750.2.1 bt750.2.2.1))) else (laws_FnExactAddGates.j0 k l1 l2 a3 bt724.2.2.2.1 bt724.2.2.2.2 t744 t747 bt750.2.2.2.1 bt750.2.2.2.2 true a0_0 l0_1 l0_2 bt724.1 bt724.2.1 bt724.2.2.1 bt736.1 bt736.2.1 bt736.2.2 bt750.1 bt750.2.1 bt750.2.2.1)))))))) = some true := H
    have A16 := Aside0.mk A160
    clear A160
    replace H := Option.bind_eq_some_iff.mp H
    obtain ⟨⟨t724, t725, t728, t731, t734⟩, A170, H⟩ := H
    replace H : ((laws_toCircuit.f k a0_0 l0_1 l0_2).bind fun bt736 => ((laws_toIntS.f k l1).bind fun t744 => ((laws_toIntS.f k l2).bind fun t747 => ((impl_AddGates.f k bt736.1 bt736.2.1 bt736.2.2 t744 t747 a3).bind fun bt750 => ((laws_eqCircuit.f k bt750.1 bt750.2.1 bt750.2.2.1 t724 t725 t728).bind fun t762 => (if t762 = true then ((laws_eqIntS.f k bt750.2.2.2.1 t731).bind fun t763 => (if t763 = true then (laws_FnExactAddGates.j0 k l1 l2 a3 t731 t734 t744 t747 bt750.2.2.2.1 bt750.2.2.2.2 (bt750.2.2.2.2 != t734) a0_0 l0_1 l0_2 t724 t725 t728 bt736.1 bt736.2.1 bt736.2.2 bt750.1 bt750.2.1 bt750.2.2.1) else (laws_FnExactAddGates.j0 k l1 l2 a3 t731 t734 t744 t747 bt750.2.2.2.1 bt750.2.2.2.2 true a0_0 l0_1 l0_2 t724 t725 t728 bt736.1 bt736.2.1 bt736.2.2 bt750.1 bt750.2.1 bt750.2.2.1))) else (laws_FnExactAddGates.j0 k l1 l2 a3 t731 t734 t744 t747 bt750.2.2.2.1 bt750.2.2.2.2 true a0_0 l0_1 l0_2 t724 t725 t728 bt736.1 bt736.2.1 bt736.2.2 bt750.1 bt750.2.1 bt750.2.2.1))))))) = some true := H
    have A17 := Aside0.mk A170
    clear A170
    replace H := Option.bind_eq_some_iff.mp H
    obtain ⟨⟨t736, t737, t740⟩, A180, H⟩ := H
    replace H : ((laws_toIntS.f k l1).bind fun t744 => ((laws_toIntS.f k l2).bind fun t747 => ((impl_AddGates.f k t736 t737 t740 t744 t747 a3).bind fun bt750 => ((laws_eqCircuit.f k bt750.1 bt750.2.1 bt750.2.2.1 t724 t725 t728).bind fun t762 => (if t762 = true then ((laws_eqIntS.f k bt750.2.2.2.1 t731).bind fun t763 => (if t763 = true then (laws_FnExactAddGates.j0 k l1 l2 a3 t731 t734 t744 t747 bt750.2.2.2.1 bt750.2.2.2.2 (bt750.2.2.2.2 != t734) a0_0 l0_1 l0_2 t724 t725 t728 t736 t737 t740 bt750.1 bt750.2.1 bt750.2.2.1) else (laws_FnExactAddGates.j0 k l1 l2 a3 t731 t734 t744 t747 bt750.2.2.2.1 bt750.2.2.2.2 true a0_0 l0_1 l0_2 t724 t725 t728 t736 t737 t740 bt750.1 bt750.2.1 bt750.2.2.1))) else (laws_FnExactAddGates.j0 k l1 l2 a3 t731 t734 t744 t747 bt750.2.2.2.1 bt750.2.2.2.2 true a0_0 l0_1 l0_2 t724 t725 t728 t736 t737 t740 bt750.1 bt750.2.1 bt750.2.2.1)))))) = some true := H
    have A18 := Aside0.mk A180
    clear A180
    replace H := Option.bind_eq_some_iff.mp H
    obtain ⟨t744, A190, H⟩ := H
    replace H : ((laws_toIntS.f k l2).bind fun t747 => ((impl_AddGates.f k t736 t737 t740 t744 t747 a3).bind fun bt750 => ((laws_eqCircuit.f k bt750.1 bt750.2.1 bt750.2.2.1 t724 t725 t728).bind fun t762 => (if t762 = true then ((laws_eqIntS.f k bt750.2.2.2.1 t731).bind fun t763 => (if t763 = true then (laws_FnExactAddGates.j0 k l1 l2 a3 t731 t734 t744 t747 bt750.2.2.2.1 bt750.2.2.2.2 (bt750.2.2.2.2 != t734) a0_0 l0_1 l0_2 t724 t725 t728 t736 t737 t740 bt750.1 bt750.2.1 bt750.2.2.1) else (laws_FnExactAddGates.j0 k l1 l2 a3 t731 t734 t744 t747 bt750.2.2.2.1 bt750.2.2.2.2 true a0_0 l0_1 l0_2 t724 t725 t728 t736 t737 t740 bt750.1 bt750.2.1 bt750.2.2.1))) else (laws_FnExactAddGates.j0 k l1 l2 a3 t731 t734 t744 t747 bt750.2.2.2.1 bt750.2.2.2.2 true a0_0 l0_1 l0_2 t724 t725 t728 t736 t737 t740 bt750.1 bt750.2.1 bt750.2.2.1))))) = some true := H
    have A19 := Aside0.mk A190
    clear A190
    replace H := Option.bind_eq_some_iff.mp H
    obtain ⟨t747, A200, H⟩ := H
    replace H : ((impl_AddGates.f k t736 t737 t740 t744 t747 a3).bind fun bt750 => ((laws_eqCircuit.f k bt750.1 bt750.2.1 bt750.2.2.1 t724 t725 t728).bind fun t762 => (if t762 = true then ((laws_eqIntS.f k bt750.2.2.2.1 t731).bind fun t763 => (if t763 = true then (laws_FnExactAddGates.j0 k l1 l2 a3 t731 t734 t744 t747 bt750.2.2.2.1 bt750.2.2.2.2 (bt750.2.2.2.2 != t734) a0_0 l0_1 l0_2 t724 t725 t728 t736 t737 t740 bt750.1 bt750.2.1 bt750.2.2.1) else (laws_FnExactAddGates.j0 k l1 l2 a3 t731 t734 t744 t747 bt750.2.2.2.1 bt750.2.2.2.2 true a0_0 l0_1 l0_2 t724 t725 t728 t736 t737 t740 bt750.1 bt750.2.1 bt750.2.2.1))) else (laws_FnExactAddGates.j0 k l1 l2 a3 t731 t734 t744 t747 bt750.2.2.2.1 bt750.2.2.2.2 true a0_0 l0_1 l0_2 t724 t725 t728 t736 t737 t740 bt750.1 bt750.2.1 bt750.2.2.1)))) = some true := H
    have A20 := Aside0.mk A200
    clear A200
    replace H := Option.bind_eq_some_iff.mp H
    obtain ⟨⟨t750, t751, t754, t757, t760⟩, A210, H⟩ := H
    replace H : ((laws_eqCircuit.f k t750 t751 t754 t724 t725 t728).bind fun t762 => (if t762 = true then ((laws_eqIntS.f k t757 t731).bind fun t763 => (if t763 = true then (laws_FnExactAddGates.j0 k l1 l2 a3 t731 t734 t744 t747 t757 t760 (t760 != t734) a0_0 l0_1 l0_2 t724 t725 t728 t736 t737 t740 t750 t751 t754) else (laws_FnExactAddGates.j0 k l1 l2 a3 t731 t734 t744 t747 t757 t760 true a0_0 l0_1 l0_2 t724 t725 t728 t736 t737 t740 t750 t751 t754))) else (laws_FnExactAddGates.j0 k l1 l2 a3 t731 t734 t744 t747 t757 t760 true a0_0 l0_1 l0_2 t724 t725 t728 t736 t737 t740 t750 t751 t754))) = some true := H
    have A21 := Aside0.mk A210
    clear A210
    have HC22 := Aside0.mk H
    clear H
    go_enter Try.func8, Try.ntmps8
    go_upto_region 14 with (first | ((with_reducible refine gate_dst (N := 4) rfl ?_); refine box_event ?hg (N := 4) ?hd (cs := #[.int .i64 a0_0, .slice A0_1 l0_1.length c0_1, .slice A0_2 l0_2.length c0_2]) (t := 25) ?hr ?_; (case hd => rfl); (case hg => rfl); (case hr => first | (go_simp; done) | (go_simp; rfl)); intro gb709 hg w23 hbox hb; have n0_ := Aside0.mk (below_step (qB) hb); have n1_ := Aside0.mk (hbox); have n2_ := Aside0.mk ((by rw [hg]; exact (below_size (qB)) : w.heap.size ≤ gb709)); have n3_ := Aside0.mk ((by rw [hg]; exact (below_size (qB)) : w.heap.size ≤ gb709)); clear HB; have HB := n0_; have BK709 := n1_; have GW709 := n2_; have GE709 := n3_; clear n0_ n1_ n2_ n3_; clear hb hbox hg; have hcz24_0 : w23.cell? ⟨gb709, 0, none⟩ = some (.int .i64 a0_0) := (blk_cell BK709.out 0).trans rfl; have hcz24_1 : w23.cell? ⟨gb709, 1, none⟩ = some (.slice A0_1 l0_1.length c0_1) := (blk_cell BK709.out 1).trans rfl; have hcz24_2 : w23.cell? ⟨gb709, 2, none⟩ = some (.slice A0_2 l0_2.length c0_2) := (blk_cell BK709.out 2).trans rfl; have hfz24_0 := blk_frozen BK709.out 0; have hfz24_1 := blk_frozen BK709.out 1; have hfz24_2 := blk_frozen BK709.out 2) | ((with_reducible refine gate_callee (f := 11) rfl ?_); refine goesL_ (some 33) rfl rfl Try.func11 (by kernel_rfl) rfl #[.agg #[.int .i64 a0_0, .slice A0_1 l0_1.length c0_1, .slice A0_2 l0_2.length c0_2], .int .i64 1048576] rfl qG ?_; (with_reducible refine (laws_szCircuit.calls a0_0 _ _ l0_1 _ _ l0_2 1048576 t710 _ ?side1 ?side2 ?side3 ?side4 A9.out).mono ?_); (case side1 => exact qC (Kd.C_below HR0_1.out HB.out)); (case side2 => exact HC0_1.out); (case side3 => exact qC (Kd.C_below HR0_2.out HB.out)); (case side4 => exact HC0_2.out); rintro e w25 ⟨rfl, hb⟩; refine ⟨_, rfl, ?_⟩; have n0_ := Aside0.mk (blk_below (g := gb709) (o := .cells #[.int .i64 a0_0, .slice A0_1 l0_1.length c0_1, .slice A0_2 l0_2.length c0_2] 25 (0, 0)) (qK BK709.out) hb); have n1_ := Aside0.mk (below_step (qB) hb); clear BK709; clear HB; have BK709 := n0_; have HB := n1_; clear n0_ n1_; (try clear hb); (try clear hb2); (try clear hk); (try clear hi); have hcz26_0 : w25.cell? ⟨gb709, 0, none⟩ = some (.int .i64 a0_0) := (blk_cell BK709.out 0).trans rfl; have hcz26_1 : w25.cell? ⟨gb709, 1, none⟩ = some (.slice A0_1 l0_1.length c0_1) := (blk_cell BK709.out 1).trans rfl; have hcz26_2 : w25.cell? ⟨gb709, 2, none⟩ = some (.slice A0_2 l0_2.length c0_2) := (blk_cell BK709.out 2).trans rfl; have hfz26_0 := blk_frozen BK709.out 0; have hfz26_1 := blk_frozen BK709.out 1; have hfz26_2 := blk_frozen BK709.out 2) | ((with_reducible refine gate_callee (f := 13) rfl ?_); refine goesL_ (some 38) rfl rfl Try.func13 (by kernel_rfl) rfl #[.agg #[.int .i64 a0_0, .slice A0_1 l0_1.length c0_1, .slice A0_2 l0_2.length c0_2]] rfl qG ?_; (with_reducible refine (laws_toCircuit.calls k a0_0 _ _ l0_1 _ _ l0_2 t711 t712 t715 _ ?side1 ?side2 ?side3 ?side4 A14.out).mono ?_); (case side1 => exact qC (Kd.C_below HR0_1.out HB.out)); (case side2 => exact HC0_1.out); (case side3 => exact qC (Kd.C_below HR0_2.out HB.out)); (case side4 => exact HC0_2.out); rintro e w27 ⟨v713, v716, rfl, ho0, ho1, hb⟩; refine ⟨_, rfl, ?_⟩; have n0_ := Aside0.mk (Kd.R_lower ho0 (below_size (qB))); have n1_ := Aside0.mk (Kd.R_lower ho1 (below_size (qB))); have n2_ := Aside0.mk (blk_below (g := gb709) (o := .cells #[.int .i64 a0_0, .slice A0_1 l0_1.length c0_1, .slice A0_2 l0_2.length c0_2] 25 (0, 0)) (qK BK709.out) hb); have n3_ := Aside0.mk (below_step (qB) hb); clear BK709; clear HB; have HO714 := n0_; have HO717 := n1_; have BK709 := n2_; have HB := n3_; clear n0_ n1_ n2_ n3_; (try clear hb); (try clear hb2); (try clear hk); (try clear hi); (try clear ho0); (try clear ho1)) | ((with_reducible refine gate_callee (f := 34) rfl ?_); refine goesL_ (some 40) rfl rfl Try.func34 (by kernel_rfl) rfl #[.slice A1 l1.length c1] rfl qG ?_; (with_reducible refine (laws_toIntS.calls k _ _ l1 t718 _ ?side1 ?side2 A15.out).mono ?_); (case side1 => exact qC (Kd.C_below HR1.out HB.out)); (case side2 => exact HC1.out); rintro e w28 ⟨v719, rfl, ho0, hb⟩; refine ⟨_, rfl, ?_⟩; have n0_ := Aside0.mk (Kd.R_below (qR HO714.out) hb); have n1_ := Aside0.mk (Kd.R_elder' (qR HO717.out) (Kd.R_base ho0) hb); have n2_ := Aside0.mk (Kd.R_lower (Kd.R_new' ho0 (Kd.R_lt (qR HO717.out))) (below_size (qB))); have n3_ := Aside0.mk (blk_below (g := gb709) (o := .cells #[.int .i64 a0_0, .slice A0_1 l0_1.length c0_1, .slice A0_2 l0_2.length c0_2] 25 (0, 0)) (qK BK709.out) hb); have n4_ := Aside0.mk (below_step (qB) hb); clear HO714; clear HO717; clear BK709; clear HB; have HO714 := n0_; have HO717 := n1_; have HO720 := n2_; have BK709 := n3_; have HB := n4_; clear n0_ n1_ n2_ n3_ n4_; (try clear hb); (try clear hb2); (try clear hk); (try clear hi); (try clear ho0)) | ((with_reducible refine gate_callee (f := 34) rfl ?_); refine goesL_ (some 42) rfl rfl Try.func34 (by kernel_rfl) rfl #[.slice A2 l2.length c2] rfl qG ?_; (with_reducible refine (laws_toIntS.calls k _ _ l2 t721 _ ?side1 ?side2 A16.out).mono ?_); (case side1 => exact qC (Kd.C_below HR2.out HB.out)); (case side2 => exact HC2.out); rintro e w29 ⟨v722, rfl, ho0, hb⟩; refine ⟨_, rfl, ?_⟩; have n0_ := Aside0.mk (Kd.R_below (qR HO714.out) hb); have n1_ := Aside0.mk (Kd.R_elder' (qR HO717.out) (Kd.R_base ho0) hb); have n2_ := Aside0.mk (Kd.R_elder' (qR HO720.out) (Kd.R_base ho0) hb); have n3_ := Aside0.mk (Kd.R_lower (Kd.R_new' (Kd.R_new' ho0 (Kd.R_lt (qR HO717.out))) (Kd.R_lt (qR HO720.out))) (below_size (qB))); have n4_ := Aside0.mk (blk_below (g := gb709) (o := .cells #[.int .i64 a0_0, .slice A0_1 l0_1.length c0_1, .slice A0_2 l0_2.length c0_2] 25 (0, 0)) (qK BK709.out) hb); have n5_ := Aside0.mk (below_step (qB) hb); clear HO714; clear HO717; clear HO720; clear BK709; clear HB; have HO714 := n0_; have HO717 := n1_; have HO720 := n2_; have HO723 := n3_; have BK709 := n4_; have HB := n5_; clear n0_ n1_ n2_ n3_ n4_ n5_; (try clear hb); (try clear hb2); (try clear hk); (try clear hi); (try clear ho0); obtain ⟨Ao30, co30, eo30⟩ := Kd.R_slice HO714.out; subst eo30; obtain ⟨Ao31, co31, eo31⟩ := Kd.R_slice HO717.out; subst eo31; obtain ⟨Ao32, co32, eo32⟩ := Kd.R_slice HO720.out; subst eo32; obtain ⟨Ao33, co33, eo33⟩ := Kd.R_slice HO723.out; subst eo33) | ((with_reducible refine gate_callee (f := 33) rfl ?_); refine goesL_ (some 44) rfl rfl Try.func33 (by kernel_rfl) rfl #[.agg #[.int .i64 t711, .slice Ao30 t712.length co30, .slice Ao31 t715.length co31], .slice Ao32 t718.length co32, .slice Ao33 t721.length co33, .int .i64 a3] rfl qG ?_; (with_reducible refine (spec_AddGates.calls k t711 _ _ t712 _ _ t715 _ _ t718 _ _ t721 a3 t724 t725 t728 t731 t734 _ ?side1 ?side2 ?side3 ?side4 ?side5 ?side6 ?side7 ?side8 A17.out).mono ?_); (case side1 => repeat (first | exact (Kd.R_reads' HO714.out).2.2 | (with_reducible refine Kd.C_alloc ?_ _) | (with_reducible refine Kd.C_drewN ?_ _) | (with_reducible refine Kd.C_drew ?_))); (case side2 => exact (Kd.R_reads' HO714.out).2.1); (case side3 => repeat (first | exact (Kd.R_reads' HO717.out).2.2 | (with_reducible refine Kd.C_alloc ?_ _) | (with_reducible refine Kd.C_drewN ?_ _) | (with_reducible refine Kd.C_drew ?_))); (case side4 => exact (Kd.R_reads' HO717.out).2.1); (case side5 => repeat (first | exact (Kd.R_reads' HO720.out).2.2 | (with_reducible refine Kd.C_alloc ?_ _) | (with_reducible refine Kd.C_drewN ?_ _) | (with_reducible refine Kd.C_drew ?_))); (case side6 => exact (Kd.R_reads' HO720.out).2.1); (case side7 => repeat (first | exact (Kd.R_reads' HO723.out).2.2 | (with_reducible refine Kd.C_alloc ?_ _) | (with_reducible refine Kd.C_drewN ?_ _) | (with_reducible refine Kd.C_drew ?_))); (case side8 => exact (Kd.R_reads' HO723.out).2.1); rintro e w34 ⟨v726, v729, v732, rfl, ho0, ho1, ho2, hb⟩; refine ⟨_, rfl, ?_⟩; have n0_ := Aside0.mk (Kd.R_elder' (qR HO714.out) (Kd.R_base ho0) hb); have n1_ := Aside0.mk (Kd.R_mono (Kd.R_told (Kd.R_told (Kd.R_old (qR HO717.out) hb) (Kd.R_base ho1)) (Kd.R_base ho2)) (fun _ h_ => h_.1)); have n2_ := Aside0.mk (Kd.R_mono (Kd.R_told (Kd.R_told (Kd.R_old (qR HO720.out) hb) (Kd.R_base ho1)) (Kd.R_base ho2)) (fun _ h_ => h_.1)); have n3_ := Aside0.mk (Kd.R_mono (Kd.R_told (Kd.R_told (Kd.R_old (qR HO723.out) hb) (Kd.R_base ho1)) (Kd.R_base ho2)) (fun _ h_ => h_.1)); have n4_ := Aside0.mk (Kd.R_lower (Kd.R_new' ho0 (Kd.R_lt (qR HO714.out))) (below_size (qB))); have n5_ := Aside0.mk (Kd.R_lower (Kd.R_new' (Kd.R_new' (Kd.R_new' ho1 (Kd.R_lt (qR HO717.out))) (Kd.R_lt (qR HO720.out))) (Kd.R_lt (qR HO723.out))) (below_size (qB))); have n6_ := Aside0.mk (Kd.R_lower (Kd.R_new' (Kd.R_new' (Kd.R_new' ho2 (Kd.R_lt (qR HO717.out))) (Kd.R_lt (qR HO720.out))) (Kd.R_lt (qR HO723.out))) (below_size (qB))); have n7_ := Aside0.mk (blk_below (g := gb709) (o := .cells #[.int .i64 a0_0, .slice A0_1 l0_1.length c0_1, .slice A0_2 l0_2.length c0_2] 25 (0, 0)) (qK BK709.out) hb); have n8_ := Aside0.mk (below_step (qB) hb); clear HO714; clear HO717; clear HO720; clear HO723; clear BK709; clear HB; have HO714 := n0_; have HO717 := n1_; have HO720 := n2_; have HO723 := n3_; have HO727 := n4_; have HO730 := n5_; have HO733 := n6_; have BK709 := n7_; have HB := n8_; clear n0_ n1_ n2_ n3_ n4_ n5_ n6_ n7_ n8_; (try clear hb); (try clear hb2); (try clear hk); (try clear hi); (try clear ho0); (try clear ho1); (try clear ho2)) | ((with_reducible refine gate_dst (N := 10) rfl ?_); refine box_event ?hg (N := 10) ?hd (cs := #[.int .i64 0, .slice none 0 0, .slice none 0 0]) (t := 30) ?hr ?_; (case hd => rfl); (case hg => rfl); (case hr => first | (go_simp; done) | (go_simp; rfl)); intro gb735 hg w35 hbox hb; have n0_ := Aside0.mk (Kd.R_below (qR HO714.out) hb); have n1_ := Aside0.mk (Kd.R_below (qR HO717.out) hb); have n2_ := Aside0.mk (Kd.R_below (qR HO720.out) hb); have n3_ := Aside0.mk (Kd.R_below (qR HO723.out) hb); have n4_ := Aside0.mk (Kd.R_below (qR HO727.out) hb); have n5_ := Aside0.mk (Kd.R_below (qR HO730.out) hb); have n6_ := Aside0.mk (Kd.R_below (qR HO733.out) hb); have n7_ := Aside0.mk (blk_below (g := gb709) (o := .cells #[.int .i64 a0_0, .slice A0_1 l0_1.length c0_1, .slice A0_2 l0_2.length c0_2] 25 (0, 0)) (qK BK709.out) hb); have n8_ := Aside0.mk (below_step (qB) hb); have n9_ := Aside0.mk (hbox); have n10_ := Aside0.mk ((by rw [hg]; exact (below_size (qB)) : w.heap.size ≤ gb735)); have n11_ := Aside0.mk ((by rw [hg]; exact (below_size (qB)) : w.heap.size ≤ gb735)); have n12_ := Aside0.mk ((by rw [hg]; exact Nat.ne_of_lt (blk_lt (g := gb709) (o := .cells #[.int .i64 a0_0, .slice A0_1 l0_1.length c0_1, .slice A0_2 l0_2.length c0_2] 25 (0, 0)) (qK BK709.out)) : gb709 ≠ gb735)); have n13_ := Aside0.mk ((by rw [hg]; exact Nat.ne_of_gt (blk_lt (g := gb709) (o := .cells #[.int .i64 a0_0, .slice A0_1 l0_1.length c0_1, .slice A0_2 l0_2.length c0_2] 25 (0, 0)) (qK BK709.out)) : gb735 ≠ gb709)); clear HO714; clear HO717; clear HO720; clear HO723; clear HO727; clear HO730; clear HO733; clear BK709; clear HB; have HO714 := n0_; have HO717 := n1_; have HO720 := n2_; have HO723 := n3_; have HO727 := n4_; have HO730 := n5_; have HO733 := n6_; have BK709 := n7_; have HB := n8_; have BK735 := n9_; have GW735 := n10_; have GE735 := n11_; have NB709_735 := n12_; have NB735_709 := n13_; clear n0_ n1_ n2_ n3_ n4_ n5_ n6_ n7_ n8_ n9_ n10_ n11_ n12_ n13_; clear hb hbox hg; have hnb36 := NB735_709.out; have hnc36 := NB709_735.out; have hcz37_0 : w35.cell? ⟨gb735, 0, none⟩ = some (.int .i64 0) := (blk_cell BK735.out 0).trans rfl; have hcz37_1 : w35.cell? ⟨gb735, 1, none⟩ = some (.slice none 0 0) := (blk_cell BK735.out 1).trans rfl; have hcz37_2 : w35.cell? ⟨gb735, 2, none⟩ = some (.slice none 0 0) := (blk_cell BK735.out 2).trans rfl; have hfz37_0 := blk_frozen BK735.out 0; have hfz37_1 := blk_frozen BK735.out 1; have hfz37_2 := blk_frozen BK735.out 2; obtain ⟨Ao38, co38, eo38⟩ := Kd.R_slice HO727.out; subst eo38; obtain ⟨Ao39, co39, eo39⟩ := Kd.R_slice HO730.out; subst eo39; have hcz40_0 : w35.cell? ⟨gb709, 0, none⟩ = some (.int .i64 a0_0) := (blk_cell BK709.out 0).trans rfl; have hcz40_1 : w35.cell? ⟨gb709, 1, none⟩ = some (.slice A0_1 l0_1.length c0_1) := (blk_cell BK709.out 1).trans rfl; have hcz40_2 : w35.cell? ⟨gb709, 2, none⟩ = some (.slice A0_2 l0_2.length c0_2) := (blk_cell BK709.out 2).trans rfl; have hfz40_0 := blk_frozen BK709.out 0; have hfz40_1 := blk_frozen BK709.out 1; have hfz40_2 := blk_frozen BK709.out 2) | ((with_reducible refine gate_callee (f := 13) rfl ?_); refine goesL_ (some 49) rfl rfl Try.func13 (by kernel_rfl) rfl #[.agg #[.int .i64 a0_0, .slice A0_1 l0_1.length c0_1, .slice A0_2 l0_2.length c0_2]] rfl qG ?_; (with_reducible refine (laws_toCircuit.calls k a0_0 _ _ l0_1 _ _ l0_2 t736 t737 t740 _ ?side1 ?side2 ?side3 ?side4 A18.out).mono ?_); (case side1 => exact Kd.C_below HR0_1.out (qB)); (case side2 => exact HC0_1.out); (case side3 => exact Kd.C_below HR0_2.out (qB)); (case side4 => exact HC0_2.out); rintro e w41 ⟨v738, v741, rfl, ho0, ho1, hb⟩; refine ⟨_, rfl, ?_⟩; have n0_ := Aside0.mk (Kd.R_elder' (by (with_reducible repeat (first | apply Kd.R_alloc | apply Kd.R_drewN | apply Kd.R_drew)); exact (Kd.R_mono (Kd.R_far (p := ⟨gb735, 2, none⟩) (Kd.R_far (p := ⟨gb735, 1, none⟩) (Kd.R_far (p := ⟨gb735, 0, none⟩) (Kd.R_types HO714.out BK735.out (by decide)) (fun _ hk => hk.2) (.int .i64 t724)) (fun _ hk => hk.2) (.slice Ao38 t725.length co38)) (fun _ hk => hk.2) (.slice Ao39 t728.length co39)) (fun _ h_ => h_.1))) (Kd.R_base ho0) hb); have n1_ := Aside0.mk (Kd.R_elder' (by (with_reducible repeat (first | apply Kd.R_alloc | apply Kd.R_drewN | apply Kd.R_drew)); exact (Kd.R_mono (Kd.R_far (p := ⟨gb735, 2, none⟩) (Kd.R_far (p := ⟨gb735, 1, none⟩) (Kd.R_far (p := ⟨gb735, 0, none⟩) (Kd.R_types HO717.out BK735.out (by decide)) (fun _ hk => hk.2) (.int .i64 t724)) (fun _ hk => hk.2) (.slice Ao38 t725.length co38)) (fun _ hk => hk.2) (.slice Ao39 t728.length co39)) (fun _ h_ => h_.1))) (Kd.R_base ho1) hb); have n2_ := Aside0.mk (Kd.R_elder' (by (with_reducible repeat (first | apply Kd.R_alloc | apply Kd.R_drewN | apply Kd.R_drew)); exact (Kd.R_mono (Kd.R_far (p := ⟨gb735, 2, none⟩) (Kd.R_far (p := ⟨gb735, 1, none⟩) (Kd.R_far (p := ⟨gb735, 0, none⟩) (Kd.R_types HO720.out BK735.out (by decide)) (fun _ hk => hk.2) (.int .i64 t724)) (fun _ hk => hk.2) (.slice Ao38 t725.length co38)) (fun _ hk => hk.2) (.slice Ao39 t728.length co39)) (fun _ h_ => h_.1))) (Kd.R_base ho1) hb); have n3_ := Aside0.mk (Kd.R_elder' (by (with_reducible repeat (first | apply Kd.R_alloc | apply Kd.R_drewN | apply Kd.R_drew)); exact (Kd.R_mono (Kd.R_far (p := ⟨gb735, 2, none⟩) (Kd.R_far (p := ⟨gb735, 1, none⟩) (Kd.R_far (p := ⟨gb735, 0, none⟩) (Kd.R_types HO723.out BK735.out (by decide)) (fun _ hk => hk.2) (.int .i64 t724)) (fun _ hk => hk.2) (.slice Ao38 t725.length co38)) (fun _ hk => hk.2) (.slice Ao39 t728.length co39)) (fun _ h_ => h_.1))) (Kd.R_base ho1) hb); have n4_ := Aside0.mk (Kd.R_elder' (by (with_reducible repeat (first | apply Kd.R_alloc | apply Kd.R_drewN | apply Kd.R_drew)); exact (Kd.R_mono (Kd.R_far (p := ⟨gb735, 2, none⟩) (Kd.R_far (p := ⟨gb735, 1, none⟩) (Kd.R_far (p := ⟨gb735, 0, none⟩) (Kd.R_types HO727.out BK735.out (by decide)) (fun _ hk => hk.2) (.int .i64 t724)) (fun _ hk => hk.2) (.slice Ao38 t725.length co38)) (fun _ hk => hk.2) (.slice Ao39 t728.length co39)) (fun _ h_ => h_.1))) (Kd.R_base ho0) hb); have n5_ := Aside0.mk (Kd.R_elder' (by (with_reducible repeat (first | apply Kd.R_alloc | apply Kd.R_drewN | apply Kd.R_drew)); exact (Kd.R_mono (Kd.R_far (p := ⟨gb735, 2, none⟩) (Kd.R_far (p := ⟨gb735, 1, none⟩) (Kd.R_far (p := ⟨gb735, 0, none⟩) (Kd.R_types HO730.out BK735.out (by decide)) (fun _ hk => hk.2) (.int .i64 t724)) (fun _ hk => hk.2) (.slice Ao38 t725.length co38)) (fun _ hk => hk.2) (.slice Ao39 t728.length co39)) (fun _ h_ => h_.1))) (Kd.R_base ho1) hb); have n6_ := Aside0.mk (Kd.R_elder' (by (with_reducible repeat (first | apply Kd.R_alloc | apply Kd.R_drewN | apply Kd.R_drew)); exact (Kd.R_mono (Kd.R_far (p := ⟨gb735, 2, none⟩) (Kd.R_far (p := ⟨gb735, 1, none⟩) (Kd.R_far (p := ⟨gb735, 0, none⟩) (Kd.R_types HO733.out BK735.out (by decide)) (fun _ hk => hk.2) (.int .i64 t724)) (fun _ hk => hk.2) (.slice Ao38 t725.length co38)) (fun _ hk => hk.2) (.slice Ao39 t728.length co39)) (fun _ h_ => h_.1))) (Kd.R_base ho1) hb); have n7_ := Aside0.mk (Kd.R_lower (Kd.R_new' (Kd.R_new' ho0 (Kd.R_lt (by (with_reducible repeat (first | apply Kd.R_alloc | apply Kd.R_drewN | apply Kd.R_drew)); exact (Kd.R_mono (Kd.R_far (p := ⟨gb735, 2, none⟩) (Kd.R_far (p := ⟨gb735, 1, none⟩) (Kd.R_far (p := ⟨gb735, 0, none⟩) (Kd.R_types HO714.out BK735.out (by decide)) (fun _ hk => hk.2) (.int .i64 t724)) (fun _ hk => hk.2) (.slice Ao38 t725.length co38)) (fun _ hk => hk.2) (.slice Ao39 t728.length co39)) (fun _ h_ => h_.1))))) (Kd.R_lt (by (with_reducible repeat (first | apply Kd.R_alloc | apply Kd.R_drewN | apply Kd.R_drew)); exact (Kd.R_mono (Kd.R_far (p := ⟨gb735, 2, none⟩) (Kd.R_far (p := ⟨gb735, 1, none⟩) (Kd.R_far (p := ⟨gb735, 0, none⟩) (Kd.R_types HO727.out BK735.out (by decide)) (fun _ hk => hk.2) (.int .i64 t724)) (fun _ hk => hk.2) (.slice Ao38 t725.length co38)) (fun _ hk => hk.2) (.slice Ao39 t728.length co39)) (fun _ h_ => h_.1))))) (below_size (qB))); have n8_ := Aside0.mk (Kd.R_lower (Kd.R_new' (Kd.R_new' (Kd.R_new' (Kd.R_new' (Kd.R_new' ho1 (Kd.R_lt (by (with_reducible repeat (first | apply Kd.R_alloc | apply Kd.R_drewN | apply Kd.R_drew)); exact (Kd.R_mono (Kd.R_far (p := ⟨gb735, 2, none⟩) (Kd.R_far (p := ⟨gb735, 1, none⟩) (Kd.R_far (p := ⟨gb735, 0, none⟩) (Kd.R_types HO717.out BK735.out (by decide)) (fun _ hk => hk.2) (.int .i64 t724)) (fun _ hk => hk.2) (.slice Ao38 t725.length co38)) (fun _ hk => hk.2) (.slice Ao39 t728.length co39)) (fun _ h_ => h_.1))))) (Kd.R_lt (by (with_reducible repeat (first | apply Kd.R_alloc | apply Kd.R_drewN | apply Kd.R_drew)); exact (Kd.R_mono (Kd.R_far (p := ⟨gb735, 2, none⟩) (Kd.R_far (p := ⟨gb735, 1, none⟩) (Kd.R_far (p := ⟨gb735, 0, none⟩) (Kd.R_types HO720.out BK735.out (by decide)) (fun _ hk => hk.2) (.int .i64 t724)) (fun _ hk => hk.2) (.slice Ao38 t725.length co38)) (fun _ hk => hk.2) (.slice Ao39 t728.length co39)) (fun _ h_ => h_.1))))) (Kd.R_lt (by (with_reducible repeat (first | apply Kd.R_alloc | apply Kd.R_drewN | apply Kd.R_drew)); exact (Kd.R_mono (Kd.R_far (p := ⟨gb735, 2, none⟩) (Kd.R_far (p := ⟨gb735, 1, none⟩) (Kd.R_far (p := ⟨gb735, 0, none⟩) (Kd.R_types HO723.out BK735.out (by decide)) (fun _ hk => hk.2) (.int .i64 t724)) (fun _ hk => hk.2) (.slice Ao38 t725.length co38)) (fun _ hk => hk.2) (.slice Ao39 t728.length co39)) (fun _ h_ => h_.1))))) (Kd.R_lt (by (with_reducible repeat (first | apply Kd.R_alloc | apply Kd.R_drewN | apply Kd.R_drew)); exact (Kd.R_mono (Kd.R_far (p := ⟨gb735, 2, none⟩) (Kd.R_far (p := ⟨gb735, 1, none⟩) (Kd.R_far (p := ⟨gb735, 0, none⟩) (Kd.R_types HO730.out BK735.out (by decide)) (fun _ hk => hk.2) (.int .i64 t724)) (fun _ hk => hk.2) (.slice Ao38 t725.length co38)) (fun _ hk => hk.2) (.slice Ao39 t728.length co39)) (fun _ h_ => h_.1))))) (Kd.R_lt (by (with_reducible repeat (first | apply Kd.R_alloc | apply Kd.R_drewN | apply Kd.R_drew)); exact (Kd.R_mono (Kd.R_far (p := ⟨gb735, 2, none⟩) (Kd.R_far (p := ⟨gb735, 1, none⟩) (Kd.R_far (p := ⟨gb735, 0, none⟩) (Kd.R_types HO733.out BK735.out (by decide)) (fun _ hk => hk.2) (.int .i64 t724)) (fun _ hk => hk.2) (.slice Ao38 t725.length co38)) (fun _ hk => hk.2) (.slice Ao39 t728.length co39)) (fun _ h_ => h_.1))))) (below_size (qB))); have n9_ := Aside0.mk (blk_below (g := gb709) (o := .cells #[.int .i64 a0_0, .slice A0_1 l0_1.length c0_1, .slice A0_2 l0_2.length c0_2] 25 (0, 0)) (qF BK709.out) hb); have n10_ := Aside0.mk (blk_below (g := gb735) (o := .cells #[.int .i64 t724, .slice Ao38 t725.length co38, .slice Ao39 t728.length co39] 30 (0, 0)) (by (with_reducible repeat (first | refine blk_drewN ?_ _ | refine blk_drew ?_ | refine blk_alloc ?_ _)); refine blk_put (cs := #[.int .i64 t724, .slice Ao38 t725.length co38, .slice none 0 0]) ?_ 2 _ rfl; refine blk_put (cs := #[.int .i64 t724, .slice none 0 0, .slice none 0 0]) ?_ 1 _ rfl; refine blk_put (cs := #[.int .i64 0, .slice none 0 0, .slice none 0 0]) ?_ 0 _ rfl; exact qK BK735.out) hb); have n11_ := Aside0.mk (below_step (qB) hb); clear HO714; clear HO717; clear HO720; clear HO723; clear HO727; clear HO730; clear HO733; clear BK709; clear BK735; clear HB; have HO714 := n0_; have HO717 := n1_; have HO720 := n2_; have HO723 := n3_; have HO727 := n4_; have HO730 := n5_; have HO733 := n6_; have HO739 := n7_; have HO742 := n8_; have BK709 := n9_; have BK735 := n10_; have HB := n11_; clear n0_ n1_ n2_ n3_ n4_ n5_ n6_ n7_ n8_ n9_ n10_ n11_; (try clear hb); (try clear hb2); (try clear hk); (try clear hi); (try clear ho0); (try clear ho1)) | ((with_reducible refine gate_dst (N := 13) rfl ?_); refine box_event ?hg (N := 13) ?hd (cs := #[.int .i64 0, .slice none 0 0, .slice none 0 0]) (t := 30) ?hr ?_; (case hd => rfl); (case hg => rfl); (case hr => first | (go_simp; done) | (go_simp; rfl)); intro gb743 hg w42 hbox hb; have n0_ := Aside0.mk (Kd.R_below (qR HO714.out) hb); have n1_ := Aside0.mk (Kd.R_below (qR HO717.out) hb); have n2_ := Aside0.mk (Kd.R_below (qR HO720.out) hb); have n3_ := Aside0.mk (Kd.R_below (qR HO723.out) hb); have n4_ := Aside0.mk (Kd.R_below (qR HO727.out) hb); have n5_ := Aside0.mk (Kd.R_below (qR HO730.out) hb); have n6_ := Aside0.mk (Kd.R_below (qR HO733.out) hb); have n7_ := Aside0.mk (Kd.R_below (qR HO739.out) hb); have n8_ := Aside0.mk (Kd.R_below (qR HO742.out) hb); have n9_ := Aside0.mk (blk_below (g := gb709) (o := .cells #[.int .i64 a0_0, .slice A0_1 l0_1.length c0_1, .slice A0_2 l0_2.length c0_2] 25 (0, 0)) (qK BK709.out) hb); have n10_ := Aside0.mk (blk_below (g := gb735) (o := .cells #[.int .i64 t724, .slice Ao38 t725.length co38, .slice Ao39 t728.length co39] 30 (0, 0)) (qK BK735.out) hb); have n11_ := Aside0.mk (below_step (qB) hb); have n12_ := Aside0.mk (hbox); have n13_ := Aside0.mk ((by rw [hg]; exact (below_size (qB)) : w.heap.size ≤ gb743)); have n14_ := Aside0.mk ((by rw [hg]; exact (below_size (qB)) : w.heap.size ≤ gb743)); have n15_ := Aside0.mk ((by rw [hg]; exact Nat.ne_of_lt (blk_lt (g := gb709) (o := .cells #[.int .i64 a0_0, .slice A0_1 l0_1.length c0_1, .slice A0_2 l0_2.length c0_2] 25 (0, 0)) (qK BK709.out)) : gb709 ≠ gb743)); have n16_ := Aside0.mk ((by rw [hg]; exact Nat.ne_of_gt (blk_lt (g := gb709) (o := .cells #[.int .i64 a0_0, .slice A0_1 l0_1.length c0_1, .slice A0_2 l0_2.length c0_2] 25 (0, 0)) (qK BK709.out)) : gb743 ≠ gb709)); have n17_ := Aside0.mk ((by rw [hg]; exact Nat.ne_of_lt (blk_lt (g := gb735) (o := .cells #[.int .i64 t724, .slice Ao38 t725.length co38, .slice Ao39 t728.length co39] 30 (0, 0)) (qK BK735.out)) : gb735 ≠ gb743)); have n18_ := Aside0.mk ((by rw [hg]; exact Nat.ne_of_gt (blk_lt (g := gb735) (o := .cells #[.int .i64 t724, .slice Ao38 t725.length co38, .slice Ao39 t728.length co39] 30 (0, 0)) (qK BK735.out)) : gb743 ≠ gb735)); clear HO714; clear HO717; clear HO720; clear HO723; clear HO727; clear HO730; clear HO733; clear HO739; clear HO742; clear BK709; clear BK735; clear HB; have HO714 := n0_; have HO717 := n1_; have HO720 := n2_; have HO723 := n3_; have HO727 := n4_; have HO730 := n5_; have HO733 := n6_; have HO739 := n7_; have HO742 := n8_; have BK709 := n9_; have BK735 := n10_; have HB := n11_; have BK743 := n12_; have GW743 := n13_; have GE743 := n14_; have NB709_743 := n15_; have NB743_709 := n16_; have NB735_743 := n17_; have NB743_735 := n18_; clear n0_ n1_ n2_ n3_ n4_ n5_ n6_ n7_ n8_ n9_ n10_ n11_ n12_ n13_ n14_ n15_ n16_ n17_ n18_; clear hb hbox hg; have hnb43 := NB743_709.out; have hnc43 := NB709_743.out; have hnb44 := NB743_735.out; have hnc44 := NB735_743.out; have hcz45_0 : w42.cell? ⟨gb743, 0, none⟩ = some (.int .i64 0) := (blk_cell BK743.out 0).trans rfl; have hcz45_1 : w42.cell? ⟨gb743, 1, none⟩ = some (.slice none 0 0) := (blk_cell BK743.out 1).trans rfl; have hcz45_2 : w42.cell? ⟨gb743, 2, none⟩ = some (.slice none 0 0) := (blk_cell BK743.out 2).trans rfl; have hfz45_0 := blk_frozen BK743.out 0; have hfz45_1 := blk_frozen BK743.out 1; have hfz45_2 := blk_frozen BK743.out 2; obtain ⟨Ao46, co46, eo46⟩ := Kd.R_slice HO739.out; subst eo46; obtain ⟨Ao47, co47, eo47⟩ := Kd.R_slice HO742.out; subst eo47) | ((with_reducible refine gate_callee (f := 34) rfl ?_); refine goesL_ (some 51) rfl rfl Try.func34 (by kernel_rfl) rfl #[.slice A1 l1.length c1] rfl qG ?_; (with_reducible refine (laws_toIntS.calls k _ _ l1 t744 _ ?side1 ?side2 A19.out).mono ?_); (case side1 => exact Kd.C_below HR1.out (qB)); (case side2 => exact HC1.out); rintro e w48 ⟨v745, rfl, ho0, hb⟩; refine ⟨_, rfl, ?_⟩; have n0_ := Aside0.mk (Kd.R_below (by (with_reducible repeat (first | apply Kd.R_alloc | apply Kd.R_drewN | apply Kd.R_drew)); exact (Kd.R_mono (Kd.R_far (p := ⟨gb743, 2, none⟩) (Kd.R_far (p := ⟨gb743, 1, none⟩) (Kd.R_far (p := ⟨gb743, 0, none⟩) (Kd.R_types HO714.out BK743.out (by decide)) (fun _ hk => hk.2) (.int .i64 t736)) (fun _ hk => hk.2) (.slice Ao46 t737.length co46)) (fun _ hk => hk.2) (.slice Ao47 t740.length co47)) (fun _ h_ => h_.1))) hb); have n1_ := Aside0.mk (Kd.R_elder' (by (with_reducible repeat (first | apply Kd.R_alloc | apply Kd.R_drewN | apply Kd.R_drew)); exact (Kd.R_mono (Kd.R_far (p := ⟨gb743, 2, none⟩) (Kd.R_far (p := ⟨gb743, 1, none⟩) (Kd.R_far (p := ⟨gb743, 0, none⟩) (Kd.R_types HO717.out BK743.out (by decide)) (fun _ hk => hk.2) (.int .i64 t736)) (fun _ hk => hk.2) (.slice Ao46 t737.length co46)) (fun _ hk => hk.2) (.slice Ao47 t740.length co47)) (fun _ h_ => h_.1))) (Kd.R_base ho0) hb); have n2_ := Aside0.mk (Kd.R_elder' (by (with_reducible repeat (first | apply Kd.R_alloc | apply Kd.R_drewN | apply Kd.R_drew)); exact (Kd.R_mono (Kd.R_far (p := ⟨gb743, 2, none⟩) (Kd.R_far (p := ⟨gb743, 1, none⟩) (Kd.R_far (p := ⟨gb743, 0, none⟩) (Kd.R_types HO720.out BK743.out (by decide)) (fun _ hk => hk.2) (.int .i64 t736)) (fun _ hk => hk.2) (.slice Ao46 t737.length co46)) (fun _ hk => hk.2) (.slice Ao47 t740.length co47)) (fun _ h_ => h_.1))) (Kd.R_base ho0) hb); have n3_ := Aside0.mk (Kd.R_elder' (by (with_reducible repeat (first | apply Kd.R_alloc | apply Kd.R_drewN | apply Kd.R_drew)); exact (Kd.R_mono (Kd.R_far (p := ⟨gb743, 2, none⟩) (Kd.R_far (p := ⟨gb743, 1, none⟩) (Kd.R_far (p := ⟨gb743, 0, none⟩) (Kd.R_types HO723.out BK743.out (by decide)) (fun _ hk => hk.2) (.int .i64 t736)) (fun _ hk => hk.2) (.slice Ao46 t737.length co46)) (fun _ hk => hk.2) (.slice Ao47 t740.length co47)) (fun _ h_ => h_.1))) (Kd.R_base ho0) hb); have n4_ := Aside0.mk (Kd.R_below (by (with_reducible repeat (first | apply Kd.R_alloc | apply Kd.R_drewN | apply Kd.R_drew)); exact (Kd.R_mono (Kd.R_far (p := ⟨gb743, 2, none⟩) (Kd.R_far (p := ⟨gb743, 1, none⟩) (Kd.R_far (p := ⟨gb743, 0, none⟩) (Kd.R_types HO727.out BK743.out (by decide)) (fun _ hk => hk.2) (.int .i64 t736)) (fun _ hk => hk.2) (.slice Ao46 t737.length co46)) (fun _ hk => hk.2) (.slice Ao47 t740.length co47)) (fun _ h_ => h_.1))) hb); have n5_ := Aside0.mk (Kd.R_elder' (by (with_reducible repeat (first | apply Kd.R_alloc | apply Kd.R_drewN | apply Kd.R_drew)); exact (Kd.R_mono (Kd.R_far (p := ⟨gb743, 2, none⟩) (Kd.R_far (p := ⟨gb743, 1, none⟩) (Kd.R_far (p := ⟨gb743, 0, none⟩) (Kd.R_types HO730.out BK743.out (by decide)) (fun _ hk => hk.2) (.int .i64 t736)) (fun _ hk => hk.2) (.slice Ao46 t737.length co46)) (fun _ hk => hk.2) (.slice Ao47 t740.length co47)) (fun _ h_ => h_.1))) (Kd.R_base ho0) hb); have n6_ := Aside0.mk (Kd.R_elder' (by (with_reducible repeat (first | apply Kd.R_alloc | apply Kd.R_drewN | apply Kd.R_drew)); exact (Kd.R_mono (Kd.R_far (p := ⟨gb743, 2, none⟩) (Kd.R_far (p := ⟨gb743, 1, none⟩) (Kd.R_far (p := ⟨gb743, 0, none⟩) (Kd.R_types HO733.out BK743.out (by decide)) (fun _ hk => hk.2) (.int .i64 t736)) (fun _ hk => hk.2) (.slice Ao46 t737.length co46)) (fun _ hk => hk.2) (.slice Ao47 t740.length co47)) (fun _ h_ => h_.1))) (Kd.R_base ho0) hb); have n7_ := Aside0.mk (Kd.R_below (by (with_reducible repeat (first | apply Kd.R_alloc | apply Kd.R_drewN | apply Kd.R_drew)); exact (Kd.R_mono (Kd.R_far (p := ⟨gb743, 2, none⟩) (Kd.R_far (p := ⟨gb743, 1, none⟩) (Kd.R_far (p := ⟨gb743, 0, none⟩) (Kd.R_types HO739.out BK743.out (by decide)) (fun _ hk => hk.2) (.int .i64 t736)) (fun _ hk => hk.2) (.slice Ao46 t737.length co46)) (fun _ hk => hk.2) (.slice Ao47 t740.length co47)) (fun _ h_ => h_.1))) hb); have n8_ := Aside0.mk (Kd.R_elder' (by (with_reducible repeat (first | apply Kd.R_alloc | apply Kd.R_drewN | apply Kd.R_drew)); exact (Kd.R_mono (Kd.R_far (p := ⟨gb743, 2, none⟩) (Kd.R_far (p := ⟨gb743, 1, none⟩) (Kd.R_far (p := ⟨gb743, 0, none⟩) (Kd.R_types HO742.out BK743.out (by decide)) (fun _ hk => hk.2) (.int .i64 t736)) (fun _ hk => hk.2) (.slice Ao46 t737.length co46)) (fun _ hk => hk.2) (.slice Ao47 t740.length co47)) (fun _ h_ => h_.1))) (Kd.R_base ho0) hb); have n9_ := Aside0.mk (Kd.R_lower (Kd.R_new' (Kd.R_new' (Kd.R_new' (Kd.R_new' (Kd.R_new' (Kd.R_new' ho0 (Kd.R_lt (by (with_reducible repeat (first | apply Kd.R_alloc | apply Kd.R_drewN | apply Kd.R_drew)); exact (Kd.R_mono (Kd.R_far (p := ⟨gb743, 2, none⟩) (Kd.R_far (p := ⟨gb743, 1, none⟩) (Kd.R_far (p := ⟨gb743, 0, none⟩) (Kd.R_types HO717.out BK743.out (by decide)) (fun _ hk => hk.2) (.int .i64 t736)) (fun _ hk => hk.2) (.slice Ao46 t737.length co46)) (fun _ hk => hk.2) (.slice Ao47 t740.length co47)) (fun _ h_ => h_.1))))) (Kd.R_lt (by (with_reducible repeat (first | apply Kd.R_alloc | apply Kd.R_drewN | apply Kd.R_drew)); exact (Kd.R_mono (Kd.R_far (p := ⟨gb743, 2, none⟩) (Kd.R_far (p := ⟨gb743, 1, none⟩) (Kd.R_far (p := ⟨gb743, 0, none⟩) (Kd.R_types HO720.out BK743.out (by decide)) (fun _ hk => hk.2) (.int .i64 t736)) (fun _ hk => hk.2) (.slice Ao46 t737.length co46)) (fun _ hk => hk.2) (.slice Ao47 t740.length co47)) (fun _ h_ => h_.1))))) (Kd.R_lt (by (with_reducible repeat (first | apply Kd.R_alloc | apply Kd.R_drewN | apply Kd.R_drew)); exact (Kd.R_mono (Kd.R_far (p := ⟨gb743, 2, none⟩) (Kd.R_far (p := ⟨gb743, 1, none⟩) (Kd.R_far (p := ⟨gb743, 0, none⟩) (Kd.R_types HO723.out BK743.out (by decide)) (fun _ hk => hk.2) (.int .i64 t736)) (fun _ hk => hk.2) (.slice Ao46 t737.length co46)) (fun _ hk => hk.2) (.slice Ao47 t740.length co47)) (fun _ h_ => h_.1))))) (Kd.R_lt (by (with_reducible repeat (first | apply Kd.R_alloc | apply Kd.R_drewN | apply Kd.R_drew)); exact (Kd.R_mono (Kd.R_far (p := ⟨gb743, 2, none⟩) (Kd.R_far (p := ⟨gb743, 1, none⟩) (Kd.R_far (p := ⟨gb743, 0, none⟩) (Kd.R_types HO730.out BK743.out (by decide)) (fun _ hk => hk.2) (.int .i64 t736)) (fun _ hk => hk.2) (.slice Ao46 t737.length co46)) (fun _ hk => hk.2) (.slice Ao47 t740.length co47)) (fun _ h_ => h_.1))))) (Kd.R_lt (by (with_reducible repeat (first | apply Kd.R_alloc | apply Kd.R_drewN | apply Kd.R_drew)); exact (Kd.R_mono (Kd.R_far (p := ⟨gb743, 2, none⟩) (Kd.R_far (p := ⟨gb743, 1, none⟩) (Kd.R_far (p := ⟨gb743, 0, none⟩) (Kd.R_types HO733.out BK743.out (by decide)) (fun _ hk => hk.2) (.int .i64 t736)) (fun _ hk => hk.2) (.slice Ao46 t737.length co46)) (fun _ hk => hk.2) (.slice Ao47 t740.length co47)) (fun _ h_ => h_.1))))) (Kd.R_lt (by (with_reducible repeat (first | apply Kd.R_alloc | apply Kd.R_drewN | apply Kd.R_drew)); exact (Kd.R_mono (Kd.R_far (p := ⟨gb743, 2, none⟩) (Kd.R_far (p := ⟨gb743, 1, none⟩) (Kd.R_far (p := ⟨gb743, 0, none⟩) (Kd.R_types HO742.out BK743.out (by decide)) (fun _ hk => hk.2) (.int .i64 t736)) (fun _ hk => hk.2) (.slice Ao46 t737.length co46)) (fun _ hk => hk.2) (.slice Ao47 t740.length co47)) (fun _ h_ => h_.1))))) (below_size (qB))); have n10_ := Aside0.mk (blk_below (g := gb709) (o := .cells #[.int .i64 a0_0, .slice A0_1 l0_1.length c0_1, .slice A0_2 l0_2.length c0_2] 25 (0, 0)) (qF BK709.out) hb); have n11_ := Aside0.mk (blk_below (g := gb735) (o := .cells #[.int .i64 t724, .slice Ao38 t725.length co38, .slice Ao39 t728.length co39] 30 (0, 0)) (qF BK735.out) hb); have n12_ := Aside0.mk (blk_below (g := gb743) (o := .cells #[.int .i64 t736, .slice Ao46 t737.length co46, .slice Ao47 t740.length co47] 30 (0, 0)) (by (with_reducible repeat (first | refine blk_drewN ?_ _ | refine blk_drew ?_ | refine blk_alloc ?_ _)); refine blk_put (cs := #[.int .i64 t736, .slice Ao46 t737.length co46, .slice none 0 0]) ?_ 2 _ rfl; refine blk_put (cs := #[.int .i64 t736, .slice none 0 0, .slice none 0 0]) ?_ 1 _ rfl; refine blk_put (cs := #[.int .i64 0, .slice none 0 0, .slice none 0 0]) ?_ 0 _ rfl; exact qK BK743.out) hb); have n13_ := Aside0.mk (below_step (qB) hb); clear HO714; clear HO717; clear HO720; clear HO723; clear HO727; clear HO730; clear HO733; clear HO739; clear HO742; clear BK709; clear BK735; clear BK743; clear HB; have HO714 := n0_; have HO717 := n1_; have HO720 := n2_; have HO723 := n3_; have HO727 := n4_; have HO730 := n5_; have HO733 := n6_; have HO739 := n7_; have HO742 := n8_; have HO746 := n9_; have BK709 := n10_; have BK735 := n11_; have BK743 := n12_; have HB := n13_; clear n0_ n1_ n2_ n3_ n4_ n5_ n6_ n7_ n8_ n9_ n10_ n11_ n12_ n13_; (try clear hb); (try clear hb2); (try clear hk); (try clear hi); (try clear ho0)) | ((with_reducible refine gate_callee (f := 34) rfl ?_); refine goesL_ (some 53) rfl rfl Try.func34 (by kernel_rfl) rfl #[.slice A2 l2.length c2] rfl qG ?_; (with_reducible refine (laws_toIntS.calls k _ _ l2 t747 _ ?side1 ?side2 A20.out).mono ?_); (case side1 => exact qC (Kd.C_below HR2.out HB.out)); (case side2 => exact HC2.out); rintro e w49 ⟨v748, rfl, ho0, hb⟩; refine ⟨_, rfl, ?_⟩; have n0_ := Aside0.mk (Kd.R_below (qR HO714.out) hb); have n1_ := Aside0.mk (Kd.R_elder' (qR HO717.out) (Kd.R_base ho0) hb); have n2_ := Aside0.mk (Kd.R_elder' (qR HO720.out) (Kd.R_base ho0) hb); have n3_ := Aside0.mk (Kd.R_elder' (qR HO723.out) (Kd.R_base ho0) hb); have n4_ := Aside0.mk (Kd.R_below (qR HO727.out) hb); have n5_ := Aside0.mk (Kd.R_elder' (qR HO730.out) (Kd.R_base ho0) hb); have n6_ := Aside0.mk (Kd.R_elder' (qR HO733.out) (Kd.R_base ho0) hb); have n7_ := Aside0.mk (Kd.R_below (qR HO739.out) hb); have n8_ := Aside0.mk (Kd.R_elder' (qR HO742.out) (Kd.R_base ho0) hb); have n9_ := Aside0.mk (Kd.R_elder' (qR HO746.out) (Kd.R_base ho0) hb); have n10_ := Aside0.mk (Kd.R_lower (Kd.R_new' (Kd.R_new' (Kd.R_new' (Kd.R_new' (Kd.R_new' (Kd.R_new' (Kd.R_new' ho0 (Kd.R_lt (qR HO717.out))) (Kd.R_lt (qR HO720.out))) (Kd.R_lt (qR HO723.out))) (Kd.R_lt (qR HO730.out))) (Kd.R_lt (qR HO733.out))) (Kd.R_lt (qR HO742.out))) (Kd.R_lt (qR HO746.out))) (below_size (qB))); have n11_ := Aside0.mk (blk_below (g := gb709) (o := .cells #[.int .i64 a0_0, .slice A0_1 l0_1.length c0_1, .slice A0_2 l0_2.length c0_2] 25 (0, 0)) (qK BK709.out) hb); have n12_ := Aside0.mk (blk_below (g := gb735) (o := .cells #[.int .i64 t724, .slice Ao38 t725.length co38, .slice Ao39 t728.length co39] 30 (0, 0)) (qK BK735.out) hb); have n13_ := Aside0.mk (blk_below (g := gb743) (o := .cells #[.int .i64 t736, .slice Ao46 t737.length co46, .slice Ao47 t740.length co47] 30 (0, 0)) (qK BK743.out) hb); have n14_ := Aside0.mk (below_step (qB) hb); clear HO714; clear HO717; clear HO720; clear HO723; clear HO727; clear HO730; clear HO733; clear HO739; clear HO742; clear HO746; clear BK709; clear BK735; clear BK743; clear HB; have HO714 := n0_; have HO717 := n1_; have HO720 := n2_; have HO723 := n3_; have HO727 := n4_; have HO730 := n5_; have HO733 := n6_; have HO739 := n7_; have HO742 := n8_; have HO746 := n9_; have HO749 := n10_; have BK709 := n11_; have BK735 := n12_; have BK743 := n13_; have HB := n14_; clear n0_ n1_ n2_ n3_ n4_ n5_ n6_ n7_ n8_ n9_ n10_ n11_ n12_ n13_ n14_; (try clear hb); (try clear hb2); (try clear hk); (try clear hi); (try clear ho0); have hcz50_0 : w49.cell? ⟨gb743, 0, none⟩ = some (.int .i64 t736) := (blk_cell BK743.out 0).trans rfl; have hcz50_1 : w49.cell? ⟨gb743, 1, none⟩ = some (.slice Ao46 t737.length co46) := (blk_cell BK743.out 1).trans rfl; have hcz50_2 : w49.cell? ⟨gb743, 2, none⟩ = some (.slice Ao47 t740.length co47) := (blk_cell BK743.out 2).trans rfl; have hfz50_0 := blk_frozen BK743.out 0; have hfz50_1 := blk_frozen BK743.out 1; have hfz50_2 := blk_frozen BK743.out 2; obtain ⟨Ao51, co51, eo51⟩ := Kd.R_slice HO746.out; subst eo51; obtain ⟨Ao52, co52, eo52⟩ := Kd.R_slice HO749.out; subst eo52) | ((with_reducible refine gate_callee (f := 35) rfl ?_); refine goesL_ (some 59) rfl rfl Try.func35 (by kernel_rfl) rfl #[.agg #[.int .i64 t736, .slice Ao46 t737.length co46, .slice Ao47 t740.length co47], .slice Ao51 t744.length co51, .slice Ao52 t747.length co52, .int .i64 a3] rfl qG ?_; (with_reducible refine (impl_AddGates.calls k t736 _ _ t737 _ _ t740 _ _ t744 _ _ t747 a3 t750 t751 t754 t757 t760 _ ?side1 ?side2 ?side3 ?side4 ?side5 ?side6 ?side7 ?side8 A21.out).mono ?_); (case side1 => repeat (first | exact (Kd.R_reads' HO739.out).2.2 | (with_reducible refine Kd.C_alloc ?_ _) | (with_reducible refine Kd.C_drewN ?_ _) | (with_reducible refine Kd.C_drew ?_))); (case side2 => exact (Kd.R_reads' HO739.out).2.1); (case side3 => repeat (first | exact (Kd.R_reads' HO742.out).2.2 | (with_reducible refine Kd.C_alloc ?_ _) | (with_reducible refine Kd.C_drewN ?_ _) | (with_reducible refine Kd.C_drew ?_))); (case side4 => exact (Kd.R_reads' HO742.out).2.1); (case side5 => repeat (first | exact (Kd.R_reads' HO746.out).2.2 | (with_reducible refine Kd.C_alloc ?_ _) | (with_reducible refine Kd.C_drewN ?_ _) | (with_reducible refine Kd.C_drew ?_))); (case side6 => exact (Kd.R_reads' HO746.out).2.1); (case side7 => repeat (first | exact (Kd.R_reads' HO749.out).2.2 | (with_reducible refine Kd.C_alloc ?_ _) | (with_reducible refine Kd.C_drewN ?_ _) | (with_reducible refine Kd.C_drew ?_))); (case side8 => exact (Kd.R_reads' HO749.out).2.1); rintro e w53 ⟨v752, v755, v758, rfl, ho0, ho1, ho2, hb⟩; refine ⟨_, rfl, ?_⟩; have n0_ := Aside0.mk (Kd.R_elder' (qR HO714.out) (Kd.R_base ho0) hb); have n1_ := Aside0.mk (Kd.R_mono (Kd.R_told (Kd.R_told (Kd.R_old (qR HO717.out) hb) (Kd.R_base ho1)) (Kd.R_base ho2)) (fun _ h_ => h_.1)); have n2_ := Aside0.mk (Kd.R_mono (Kd.R_told (Kd.R_told (Kd.R_old (qR HO720.out) hb) (Kd.R_base ho1)) (Kd.R_base ho2)) (fun _ h_ => h_.1)); have n3_ := Aside0.mk (Kd.R_mono (Kd.R_told (Kd.R_told (Kd.R_old (qR HO723.out) hb) (Kd.R_base ho1)) (Kd.R_base ho2)) (fun _ h_ => h_.1)); have n4_ := Aside0.mk (Kd.R_elder' (qR HO727.out) (Kd.R_base ho0) hb); have n5_ := Aside0.mk (Kd.R_mono (Kd.R_told (Kd.R_told (Kd.R_old (qR HO730.out) hb) (Kd.R_base ho1)) (Kd.R_base ho2)) (fun _ h_ => h_.1)); have n6_ := Aside0.mk (Kd.R_mono (Kd.R_told (Kd.R_told (Kd.R_old (qR HO733.out) hb) (Kd.R_base ho1)) (Kd.R_base ho2)) (fun _ h_ => h_.1)); have n7_ := Aside0.mk (Kd.R_elder' (qR HO739.out) (Kd.R_base ho0) hb); have n8_ := Aside0.mk (Kd.R_mono (Kd.R_told (Kd.R_told (Kd.R_old (qR HO742.out) hb) (Kd.R_base ho1)) (Kd.R_base ho2)) (fun _ h_ => h_.1)); have n9_ := Aside0.mk (Kd.R_mono (Kd.R_told (Kd.R_told (Kd.R_old (qR HO746.out) hb) (Kd.R_base ho1)) (Kd.R_base ho2)) (fun _ h_ => h_.1)); have n10_ := Aside0.mk (Kd.R_mono (Kd.R_told (Kd.R_told (Kd.R_old (qR HO749.out) hb) (Kd.R_base ho1)) (Kd.R_base ho2)) (fun _ h_ => h_.1)); have n11_ := Aside0.mk (Kd.R_lower (Kd.R_new' (Kd.R_new' (Kd.R_new' ho0 (Kd.R_lt (qR HO714.out))) (Kd.R_lt (qR HO727.out))) (Kd.R_lt (qR HO739.out))) (below_size (qB))); have n12_ := Aside0.mk (Kd.R_lower (Kd.R_new' (Kd.R_new' (Kd.R_new' (Kd.R_new' (Kd.R_new' (Kd.R_new' (Kd.R_new' (Kd.R_new' ho1 (Kd.R_lt (qR HO717.out))) (Kd.R_lt (qR HO720.out))) (Kd.R_lt (qR HO723.out))) (Kd.R_lt (qR HO730.out))) (Kd.R_lt (qR HO733.out))) (Kd.R_lt (qR HO742.out))) (Kd.R_lt (qR HO746.out))) (Kd.R_lt (qR HO749.out))) (below_size (qB))); have n13_ := Aside0.mk (Kd.R_lower (Kd.R_new' (Kd.R_new' (Kd.R_new' (Kd.R_new' (Kd.R_new' (Kd.R_new' (Kd.R_new' (Kd.R_new' ho2 (Kd.R_lt (qR HO717.out))) (Kd.R_lt (qR HO720.out))) (Kd.R_lt (qR HO723.out))) (Kd.R_lt (qR HO730.out))) (Kd.R_lt (qR HO733.out))) (Kd.R_lt (qR HO742.out))) (Kd.R_lt (qR HO746.out))) (Kd.R_lt (qR HO749.out))) (below_size (qB))); have n14_ := Aside0.mk (blk_below (g := gb709) (o := .cells #[.int .i64 a0_0, .slice A0_1 l0_1.length c0_1, .slice A0_2 l0_2.length c0_2] 25 (0, 0)) (qK BK709.out) hb); have n15_ := Aside0.mk (blk_below (g := gb735) (o := .cells #[.int .i64 t724, .slice Ao38 t725.length co38, .slice Ao39 t728.length co39] 30 (0, 0)) (qK BK735.out) hb); have n16_ := Aside0.mk (blk_below (g := gb743) (o := .cells #[.int .i64 t736, .slice Ao46 t737.length co46, .slice Ao47 t740.length co47] 30 (0, 0)) (qK BK743.out) hb); have n17_ := Aside0.mk (below_step (qB) hb); clear HO714; clear HO717; clear HO720; clear HO723; clear HO727; clear HO730; clear HO733; clear HO739; clear HO742; clear HO746; clear HO749; clear BK709; clear BK735; clear BK743; clear HB; have HO714 := n0_; have HO717 := n1_; have HO720 := n2_; have HO723 := n3_; have HO727 := n4_; have HO730 := n5_; have HO733 := n6_; have HO739 := n7_; have HO742 := n8_; have HO746 := n9_; have HO749 := n10_; have HO753 := n11_; have HO756 := n12_; have HO759 := n13_; have BK709 := n14_; have BK735 := n15_; have BK743 := n16_; have HB := n17_; clear n0_ n1_ n2_ n3_ n4_ n5_ n6_ n7_ n8_ n9_ n10_ n11_ n12_ n13_ n14_ n15_ n16_ n17_; (try clear hb); (try clear hb2); (try clear hk); (try clear hi); (try clear ho0); (try clear ho1); (try clear ho2)) | ((with_reducible refine gate_dst (N := 16) rfl ?_); refine box_event ?hg (N := 16) ?hd (cs := #[.int .i64 0, .slice none 0 0, .slice none 0 0]) (t := 30) ?hr ?_; (case hd => rfl); (case hg => rfl); (case hr => first | (go_simp; done) | (go_simp; rfl)); intro gb761 hg w54 hbox hb; have n0_ := Aside0.mk (Kd.R_below (qR HO714.out) hb); have n1_ := Aside0.mk (Kd.R_below (qR HO717.out) hb); have n2_ := Aside0.mk (Kd.R_below (qR HO720.out) hb); have n3_ := Aside0.mk (Kd.R_below (qR HO723.out) hb); have n4_ := Aside0.mk (Kd.R_below (qR HO727.out) hb); have n5_ := Aside0.mk (Kd.R_below (qR HO730.out) hb); have n6_ := Aside0.mk (Kd.R_below (qR HO733.out) hb); have n7_ := Aside0.mk (Kd.R_below (qR HO739.out) hb); have n8_ := Aside0.mk (Kd.R_below (qR HO742.out) hb); have n9_ := Aside0.mk (Kd.R_below (qR HO746.out) hb); have n10_ := Aside0.mk (Kd.R_below (qR HO749.out) hb); have n11_ := Aside0.mk (Kd.R_below (qR HO753.out) hb); have n12_ := Aside0.mk (Kd.R_below (qR HO756.out) hb); have n13_ := Aside0.mk (Kd.R_below (qR HO759.out) hb); have n14_ := Aside0.mk (blk_below (g := gb709) (o := .cells #[.int .i64 a0_0, .slice A0_1 l0_1.length c0_1, .slice A0_2 l0_2.length c0_2] 25 (0, 0)) (qK BK709.out) hb); have n15_ := Aside0.mk (blk_below (g := gb735) (o := .cells #[.int .i64 t724, .slice Ao38 t725.length co38, .slice Ao39 t728.length co39] 30 (0, 0)) (qK BK735.out) hb); have n16_ := Aside0.mk (blk_below (g := gb743) (o := .cells #[.int .i64 t736, .slice Ao46 t737.length co46, .slice Ao47 t740.length co47] 30 (0, 0)) (qK BK743.out) hb); have n17_ := Aside0.mk (below_step (qB) hb); have n18_ := Aside0.mk (hbox); have n19_ := Aside0.mk ((by rw [hg]; exact (below_size (qB)) : w.heap.size ≤ gb761)); have n20_ := Aside0.mk ((by rw [hg]; exact (below_size (qB)) : w.heap.size ≤ gb761)); have n21_ := Aside0.mk ((by rw [hg]; exact Nat.ne_of_lt (blk_lt (g := gb709) (o := .cells #[.int .i64 a0_0, .slice A0_1 l0_1.length c0_1, .slice A0_2 l0_2.length c0_2] 25 (0, 0)) (qK BK709.out)) : gb709 ≠ gb761)); have n22_ := Aside0.mk ((by rw [hg]; exact Nat.ne_of_gt (blk_lt (g := gb709) (o := .cells #[.int .i64 a0_0, .slice A0_1 l0_1.length c0_1, .slice A0_2 l0_2.length c0_2] 25 (0, 0)) (qK BK709.out)) : gb761 ≠ gb709)); have n23_ := Aside0.mk ((by rw [hg]; exact Nat.ne_of_lt (blk_lt (g := gb735) (o := .cells #[.int .i64 t724, .slice Ao38 t725.length co38, .slice Ao39 t728.length co39] 30 (0, 0)) (qK BK735.out)) : gb735 ≠ gb761)); have n24_ := Aside0.mk ((by rw [hg]; exact Nat.ne_of_gt (blk_lt (g := gb735) (o := .cells #[.int .i64 t724, .slice Ao38 t725.length co38, .slice Ao39 t728.length co39] 30 (0, 0)) (qK BK735.out)) : gb761 ≠ gb735)); have n25_ := Aside0.mk ((by rw [hg]; exact Nat.ne_of_lt (blk_lt (g := gb743) (o := .cells #[.int .i64 t736, .slice Ao46 t737.length co46, .slice Ao47 t740.length co47] 30 (0, 0)) (qK BK743.out)) : gb743 ≠ gb761)); have n26_ := Aside0.mk ((by rw [hg]; exact Nat.ne_of_gt (blk_lt (g := gb743) (o := .cells #[.int .i64 t736, .slice Ao46 t737.length co46, .slice Ao47 t740.length co47] 30 (0, 0)) (qK BK743.out)) : gb761 ≠ gb743)); clear HO714; clear HO717; clear HO720; clear HO723; clear HO727; clear HO730; clear HO733; clear HO739; clear HO742; clear HO746; clear HO749; clear HO753; clear HO756; clear HO759; clear BK709; clear BK735; clear BK743; clear HB; have HO714 := n0_; have HO717 := n1_; have HO720 := n2_; have HO723 := n3_; have HO727 := n4_; have HO730 := n5_; have HO733 := n6_; have HO739 := n7_; have HO742 := n8_; have HO746 := n9_; have HO749 := n10_; have HO753 := n11_; have HO756 := n12_; have HO759 := n13_; have BK709 := n14_; have BK735 := n15_; have BK743 := n16_; have HB := n17_; have BK761 := n18_; have GW761 := n19_; have GE761 := n20_; have NB709_761 := n21_; have NB761_709 := n22_; have NB735_761 := n23_; have NB761_735 := n24_; have NB743_761 := n25_; have NB761_743 := n26_; clear n0_ n1_ n2_ n3_ n4_ n5_ n6_ n7_ n8_ n9_ n10_ n11_ n12_ n13_ n14_ n15_ n16_ n17_ n18_ n19_ n20_ n21_ n22_ n23_ n24_ n25_ n26_; clear hb hbox hg; have hnb55 := NB761_709.out; have hnc55 := NB709_761.out; have hnb56 := NB761_735.out; have hnc56 := NB735_761.out; have hnb57 := NB761_743.out; have hnc57 := NB743_761.out; have hcz58_0 : w54.cell? ⟨gb761, 0, none⟩ = some (.int .i64 0) := (blk_cell BK761.out 0).trans rfl; have hcz58_1 : w54.cell? ⟨gb761, 1, none⟩ = some (.slice none 0 0) := (blk_cell BK761.out 1).trans rfl; have hcz58_2 : w54.cell? ⟨gb761, 2, none⟩ = some (.slice none 0 0) := (blk_cell BK761.out 2).trans rfl; have hfz58_0 := blk_frozen BK761.out 0; have hfz58_1 := blk_frozen BK761.out 1; have hfz58_2 := blk_frozen BK761.out 2; obtain ⟨Ao59, co59, eo59⟩ := Kd.R_slice HO753.out; subst eo59; obtain ⟨Ao60, co60, eo60⟩ := Kd.R_slice HO756.out; subst eo60))
    (try simp only [Act.put, List.setIfInBounds_toArray, List.set_cons_zero, List.set_cons_succ])
    go_cut [77] (fun v77 wc => ∃ (kq : Nat) (x77_21 : Bool), v77 = .bool x77_21 ∧ Aside0 (laws_FnExactAddGates.j0 kq l1 l2 a3 t731 t734 t744 t747 t757 t760 x77_21 a0_0 l0_1 l0_2 t724 t725 t728 t736 t737 t740 t750 t751 t754 = some true) ∧ Aside0 (kq ≤ k) ∧ Aside0 (Kd.R (Kd.int .i64) 3 wc w.heap.size (fun k_ => some k_ ≠ ((.slice Ao51 t744.length co51) : Value).ownBlock ∧ some k_ ≠ ((.slice Ao52 t747.length co52) : Value).ownBlock ∧ some k_ ≠ (v758 : Value).ownBlock ∧ some k_ ≠ ((.slice Ao39 t728.length co39) : Value).ownBlock ∧ some k_ ≠ ((.slice Ao47 t740.length co47) : Value).ownBlock ∧ some k_ ≠ ((.slice Ao60 t754.length co60) : Value).ownBlock) v732 t731) ∧ Aside0 (Kd.R (Kd.int .i64) 3 wc w.heap.size (fun k_ => some k_ ≠ (v732 : Value).ownBlock ∧ some k_ ≠ ((.slice Ao52 t747.length co52) : Value).ownBlock ∧ some k_ ≠ (v758 : Value).ownBlock ∧ some k_ ≠ ((.slice Ao39 t728.length co39) : Value).ownBlock ∧ some k_ ≠ ((.slice Ao47 t740.length co47) : Value).ownBlock ∧ some k_ ≠ ((.slice Ao60 t754.length co60) : Value).ownBlock) (.slice Ao51 t744.length co51) t744) ∧ Aside0 (Kd.R (Kd.int .i64) 3 wc w.heap.size (fun k_ => some k_ ≠ (v732 : Value).ownBlock ∧ some k_ ≠ ((.slice Ao51 t744.length co51) : Value).ownBlock ∧ some k_ ≠ (v758 : Value).ownBlock ∧ some k_ ≠ ((.slice Ao39 t728.length co39) : Value).ownBlock ∧ some k_ ≠ ((.slice Ao47 t740.length co47) : Value).ownBlock ∧ some k_ ≠ ((.slice Ao60 t754.length co60) : Value).ownBlock) (.slice Ao52 t747.length co52) t747) ∧ Aside0 (Kd.R (Kd.int .i64) 3 wc w.heap.size (fun k_ => some k_ ≠ (v732 : Value).ownBlock ∧ some k_ ≠ ((.slice Ao51 t744.length co51) : Value).ownBlock ∧ some k_ ≠ ((.slice Ao52 t747.length co52) : Value).ownBlock ∧ some k_ ≠ ((.slice Ao39 t728.length co39) : Value).ownBlock ∧ some k_ ≠ ((.slice Ao47 t740.length co47) : Value).ownBlock ∧ some k_ ≠ ((.slice Ao60 t754.length co60) : Value).ownBlock) v758 t757) ∧ Aside0 (Kd.R k59 59 wc w.heap.size (fun k_ => some k_ ≠ ((.slice Ao46 t737.length co46) : Value).ownBlock ∧ some k_ ≠ ((.slice Ao59 t751.length co59) : Value).ownBlock) (.slice Ao38 t725.length co38) t725) ∧ Aside0 (Kd.R (Kd.int .i64) 3 wc w.heap.size (fun k_ => some k_ ≠ (v732 : Value).ownBlock ∧ some k_ ≠ ((.slice Ao51 t744.length co51) : Value).ownBlock ∧ some k_ ≠ ((.slice Ao52 t747.length co52) : Value).ownBlock ∧ some k_ ≠ (v758 : Value).ownBlock ∧ some k_ ≠ ((.slice Ao47 t740.length co47) : Value).ownBlock ∧ some k_ ≠ ((.slice Ao60 t754.length co60) : Value).ownBlock) (.slice Ao39 t728.length co39) t728) ∧ Aside0 (Kd.R k59 59 wc w.heap.size (fun k_ => some k_ ≠ ((.slice Ao38 t725.length co38) : Value).ownBlock ∧ some k_ ≠ ((.slice Ao59 t751.length co59) : Value).ownBlock) (.slice Ao46 t737.length co46) t737) ∧ Aside0 (Kd.R (Kd.int .i64) 3 wc w.heap.size (fun k_ => some k_ ≠ (v732 : Value).ownBlock ∧ some k_ ≠ ((.slice Ao51 t744.length co51) : Value).ownBlock ∧ some k_ ≠ ((.slice Ao52 t747.length co52) : Value).ownBlock ∧ some k_ ≠ (v758 : Value).ownBlock ∧ some k_ ≠ ((.slice Ao39 t728.length co39) : Value).ownBlock ∧ some k_ ≠ ((.slice Ao60 t754.length co60) : Value).ownBlock) (.slice Ao47 t740.length co47) t740) ∧ Aside0 (Kd.R k59 59 wc w.heap.size (fun k_ => some k_ ≠ ((.slice Ao38 t725.length co38) : Value).ownBlock ∧ some k_ ≠ ((.slice Ao46 t737.length co46) : Value).ownBlock) (.slice Ao59 t751.length co59) t751) ∧ Aside0 (Kd.R (Kd.int .i64) 3 wc w.heap.size (fun k_ => some k_ ≠ (v732 : Value).ownBlock ∧ some k_ ≠ ((.slice Ao51 t744.length co51) : Value).ownBlock ∧ some k_ ≠ ((.slice Ao52 t747.length co52) : Value).ownBlock ∧ some k_ ≠ (v758 : Value).ownBlock ∧ some k_ ≠ ((.slice Ao39 t728.length co39) : Value).ownBlock ∧ some k_ ≠ ((.slice Ao47 t740.length co47) : Value).ownBlock) (.slice Ao60 t754.length co60) t754) ∧ Aside0 (wc.heap[gb709]? = some (.cells #[.int .i64 a0_0, (.slice A0_1 l0_1.length c0_1), (.slice A0_2 l0_2.length c0_2)] 25 (0, 0))) ∧ Aside0 (wc.heap[gb735]? = some (.cells #[.int .i64 t724, (.slice Ao38 t725.length co38), (.slice Ao39 t728.length co39)] 30 (0, 0))) ∧ Aside0 (wc.heap[gb743]? = some (.cells #[.int .i64 t736, (.slice Ao46 t737.length co46), (.slice Ao47 t740.length co47)] 30 (0, 0))) ∧ Aside0 (wc.heap[gb761]? = some (.cells #[.int .i64 t750, (.slice Ao59 t751.length co59), (.slice Ao60 t754.length co60)] 30 (0, 0))) ∧ Aside0 (Below w.heap.size w wc))
    case first =>
     have H := HC22.out
     clear HC22
     replace H := Option.bind_eq_some_iff.mp H
     obtain ⟨t762, A610, H⟩ := H
     replace H : (if t762 = true then ((laws_eqIntS.f k t757 t731).bind fun t763 => (if t763 = true then (laws_FnExactAddGates.j0 k l1 l2 a3 t731 t734 t744 t747 t757 t760 (t760 != t734) a0_0 l0_1 l0_2 t724 t725 t728 t736 t737 t740 t750 t751 t754) else (laws_FnExactAddGates.j0 k l1 l2 a3 t731 t734 t744 t747 t757 t760 true a0_0 l0_1 l0_2 t724 t725 t728 t736 t737 t740 t750 t751 t754))) else (laws_FnExactAddGates.j0 k l1 l2 a3 t731 t734 t744 t747 t757 t760 true a0_0 l0_1 l0_2 t724 t725 t728 t736 t737 t740 t750 t751 t754)) = some true := H
     have A61 := Aside0.mk A610
     clear A610
     by_cases c62 : t762 = true
     ·subst c62
      have H1 : ((laws_eqIntS.f k t757 t731).bind fun t763 => (if t763 = true then (laws_FnExactAddGates.j0 k l1 l2 a3 t731 t734 t744 t747 t757 t760 (t760 != t734) a0_0 l0_1 l0_2 t724 t725 t728 t736 t737 t740 t750 t751 t754) else (laws_FnExactAddGates.j0 k l1 l2 a3 t731 t734 t744 t747 t757 t760 true a0_0 l0_1 l0_2 t724 t725 t728 t736 t737 t740 t750 t751 t754))) = some true := by rw [if_pos rfl] at H; exact H
      clear H
      have H := H1
      clear H1
      replace H := Option.bind_eq_some_iff.mp H
      obtain ⟨t763, A630, H⟩ := H
      replace H : (if t763 = true then (laws_FnExactAddGates.j0 k l1 l2 a3 t731 t734 t744 t747 t757 t760 (t760 != t734) a0_0 l0_1 l0_2 t724 t725 t728 t736 t737 t740 t750 t751 t754) else (laws_FnExactAddGates.j0 k l1 l2 a3 t731 t734 t744 t747 t757 t760 true a0_0 l0_1 l0_2 t724 t725 t728 t736 t737 t740 t750 t751 t754)) = some true := H
      have A63 := Aside0.mk A630
      clear A630
      by_cases c64 : t763 = true
      ·subst c64
       have H1 : (laws_FnExactAddGates.j0 k l1 l2 a3 t731 t734 t744 t747 t757 t760 (t760 != t734) a0_0 l0_1 l0_2 t724 t725 t728 t736 t737 t740 t750 t751 t754) = some true := by rw [if_pos rfl] at H; exact H
       clear H
       have H := H1
       clear H1
       have H' := Aside0.mk H
       clear H
       have hnb65 := NB761_709.out
       have hnc65 := NB709_761.out
       have hnb66 := NB761_735.out
       have hnc66 := NB735_761.out
       have hnb67 := NB761_743.out
       have hnc67 := NB743_761.out
       have hcz68_0 : w54.cell? ⟨gb761, 0, none⟩ = some (.int .i64 0) := (blk_cell BK761.out 0).trans rfl
       have hcz68_1 : w54.cell? ⟨gb761, 1, none⟩ = some (.slice none 0 0) := (blk_cell BK761.out 1).trans rfl
       have hcz68_2 : w54.cell? ⟨gb761, 2, none⟩ = some (.slice none 0 0) := (blk_cell BK761.out 2).trans rfl
       have hfz68_0 := blk_frozen BK761.out 0
       have hfz68_1 := blk_frozen BK761.out 1
       have hfz68_2 := blk_frozen BK761.out 2
       have hnb69 := NB735_709.out
       have hnc69 := NB709_735.out
       have hnb70 := NB735_743.out
       have hnc70 := NB743_735.out
       have hcz71_0 : w54.cell? ⟨gb735, 0, none⟩ = some (.int .i64 t724) := (blk_cell BK735.out 0).trans rfl
       have hcz71_1 : w54.cell? ⟨gb735, 1, none⟩ = some (.slice Ao38 t725.length co38) := (blk_cell BK735.out 1).trans rfl
       have hcz71_2 : w54.cell? ⟨gb735, 2, none⟩ = some (.slice Ao39 t728.length co39) := (blk_cell BK735.out 2).trans rfl
       have hfz71_0 := blk_frozen BK735.out 0
       have hfz71_1 := blk_frozen BK735.out 1
       have hfz71_2 := blk_frozen BK735.out 2
       go_wp2_with (first | ((with_reducible refine gate_callee (f := 15) rfl ?_); refine goesL_ (some 65) rfl rfl Try.func15 (by kernel_rfl) rfl #[.agg #[.int .i64 t750, .slice Ao59 t751.length co59, .slice Ao60 t754.length co60], .agg #[.int .i64 t724, .slice Ao38 t725.length co38, .slice Ao39 t728.length co39]] rfl qG ?_; (with_reducible refine (laws_eqCircuit.calls k t750 _ _ t751 _ _ t754 t724 _ _ t725 _ _ t728 true _ ?side1 ?side2 ?side3 ?side4 ?side5 ?side6 ?side7 ?side8 A61.out).mono ?_); (case side1 => refine (Kd.R_reads' (e := 59) (base := w.heap.size) (ok := fun k_ => (((True ∧ some k_ ≠ (.slice Ao30 t712.length co30 : Value).ownBlock) ∧ some k_ ≠ (.slice Ao38 t725.length co38 : Value).ownBlock) ∧ some k_ ≠ (.slice Ao46 t737.length co46 : Value).ownBlock)) (n := t751.length) (c := co59) ?_).2.2; exact (by (with_reducible repeat (first | apply Kd.R_alloc | apply Kd.R_drewN | apply Kd.R_drew)); exact (Kd.R_mono (Kd.R_far (p := ⟨gb761, 2, none⟩) (Kd.R_far (p := ⟨gb761, 1, none⟩) (Kd.R_far (p := ⟨gb761, 0, none⟩) (Kd.R_types HO753.out BK761.out (by decide)) (fun _ hk => hk.2) (.int .i64 t750)) (fun _ hk => hk.2) (.slice Ao59 t751.length co59)) (fun _ hk => hk.2) (.slice Ao60 t754.length co60)) (fun _ h_ => h_.1)))); (case side2 => exact (Kd.R_reads' HO753.out).2.1); (case side3 => refine (Kd.R_reads' (e := 3) (base := w.heap.size) (ok := fun k_ => ((((((((some k_ ≠ (v758 : Value).ownBlock ∧ some k_ ≠ (.slice Ao31 t715.length co31 : Value).ownBlock) ∧ some k_ ≠ (.slice Ao32 t718.length co32 : Value).ownBlock) ∧ some k_ ≠ (.slice Ao33 t721.length co33 : Value).ownBlock) ∧ some k_ ≠ (.slice Ao39 t728.length co39 : Value).ownBlock) ∧ some k_ ≠ (v732 : Value).ownBlock) ∧ some k_ ≠ (.slice Ao47 t740.length co47 : Value).ownBlock) ∧ some k_ ≠ (.slice Ao51 t744.length co51 : Value).ownBlock) ∧ some k_ ≠ (.slice Ao52 t747.length co52 : Value).ownBlock)) (n := t754.length) (c := co60) ?_).2.2; exact (by (with_reducible repeat (first | apply Kd.R_alloc | apply Kd.R_drewN | apply Kd.R_drew)); exact (Kd.R_mono (Kd.R_far (p := ⟨gb761, 2, none⟩) (Kd.R_far (p := ⟨gb761, 1, none⟩) (Kd.R_far (p := ⟨gb761, 0, none⟩) (Kd.R_types HO756.out BK761.out (by decide)) (fun _ hk => hk.2) (.int .i64 t750)) (fun _ hk => hk.2) (.slice Ao59 t751.length co59)) (fun _ hk => hk.2) (.slice Ao60 t754.length co60)) (fun _ h_ => h_.1)))); (case side4 => exact (Kd.R_reads' HO756.out).2.1); (case side5 => refine (Kd.R_reads' (e := 59) (base := w.heap.size) (ok := fun k_ => (((True ∧ some k_ ≠ (.slice Ao30 t712.length co30 : Value).ownBlock) ∧ some k_ ≠ (.slice Ao46 t737.length co46 : Value).ownBlock) ∧ some k_ ≠ (.slice Ao59 t751.length co59 : Value).ownBlock)) (n := t725.length) (c := co38) ?_).2.2; exact (by (with_reducible repeat (first | apply Kd.R_alloc | apply Kd.R_drewN | apply Kd.R_drew)); exact (Kd.R_mono (Kd.R_far (p := ⟨gb761, 2, none⟩) (Kd.R_far (p := ⟨gb761, 1, none⟩) (Kd.R_far (p := ⟨gb761, 0, none⟩) (Kd.R_types HO727.out BK761.out (by decide)) (fun _ hk => hk.2) (.int .i64 t750)) (fun _ hk => hk.2) (.slice Ao59 t751.length co59)) (fun _ hk => hk.2) (.slice Ao60 t754.length co60)) (fun _ h_ => h_.1)))); (case side6 => exact (Kd.R_reads' HO727.out).2.1); (case side7 => refine (Kd.R_reads' (e := 3) (base := w.heap.size) (ok := fun k_ => ((((((((some k_ ≠ (v732 : Value).ownBlock ∧ some k_ ≠ (.slice Ao31 t715.length co31 : Value).ownBlock) ∧ some k_ ≠ (.slice Ao32 t718.length co32 : Value).ownBlock) ∧ some k_ ≠ (.slice Ao33 t721.length co33 : Value).ownBlock) ∧ some k_ ≠ (.slice Ao47 t740.length co47 : Value).ownBlock) ∧ some k_ ≠ (.slice Ao51 t744.length co51 : Value).ownBlock) ∧ some k_ ≠ (.slice Ao52 t747.length co52 : Value).ownBlock) ∧ some k_ ≠ (.slice Ao60 t754.length co60 : Value).ownBlock) ∧ some k_ ≠ (v758 : Value).ownBlock)) (n := t728.length) (c := co39) ?_).2.2; exact (by (with_reducible repeat (first | apply Kd.R_alloc | apply Kd.R_drewN | apply Kd.R_drew)); exact (Kd.R_mono (Kd.R_far (p := ⟨gb761, 2, none⟩) (Kd.R_far (p := ⟨gb761, 1, none⟩) (Kd.R_far (p := ⟨gb761, 0, none⟩) (Kd.R_types HO730.out BK761.out (by decide)) (fun _ hk => hk.2) (.int .i64 t750)) (fun _ hk => hk.2) (.slice Ao59 t751.length co59)) (fun _ hk => hk.2) (.slice Ao60 t754.length co60)) (fun _ h_ => h_.1)))); (case side8 => exact (Kd.R_reads' HO730.out).2.1); rintro e w72 ⟨rfl, hb⟩; refine ⟨_, rfl, ?_⟩; have n0_ := Aside0.mk (Kd.R_below (by (with_reducible repeat (first | apply Kd.R_alloc | apply Kd.R_drewN | apply Kd.R_drew)); exact (Kd.R_mono (Kd.R_far (p := ⟨gb761, 2, none⟩) (Kd.R_far (p := ⟨gb761, 1, none⟩) (Kd.R_far (p := ⟨gb761, 0, none⟩) (Kd.R_types HO714.out BK761.out (by decide)) (fun _ hk => hk.2) (.int .i64 t750)) (fun _ hk => hk.2) (.slice Ao59 t751.length co59)) (fun _ hk => hk.2) (.slice Ao60 t754.length co60)) (fun _ h_ => h_.1))) hb); have n1_ := Aside0.mk (Kd.R_below (by (with_reducible repeat (first | apply Kd.R_alloc | apply Kd.R_drewN | apply Kd.R_drew)); exact (Kd.R_mono (Kd.R_far (p := ⟨gb761, 2, none⟩) (Kd.R_far (p := ⟨gb761, 1, none⟩) (Kd.R_far (p := ⟨gb761, 0, none⟩) (Kd.R_types HO717.out BK761.out (by decide)) (fun _ hk => hk.2) (.int .i64 t750)) (fun _ hk => hk.2) (.slice Ao59 t751.length co59)) (fun _ hk => hk.2) (.slice Ao60 t754.length co60)) (fun _ h_ => h_.1))) hb); have n2_ := Aside0.mk (Kd.R_below (by (with_reducible repeat (first | apply Kd.R_alloc | apply Kd.R_drewN | apply Kd.R_drew)); exact (Kd.R_mono (Kd.R_far (p := ⟨gb761, 2, none⟩) (Kd.R_far (p := ⟨gb761, 1, none⟩) (Kd.R_far (p := ⟨gb761, 0, none⟩) (Kd.R_types HO720.out BK761.out (by decide)) (fun _ hk => hk.2) (.int .i64 t750)) (fun _ hk => hk.2) (.slice Ao59 t751.length co59)) (fun _ hk => hk.2) (.slice Ao60 t754.length co60)) (fun _ h_ => h_.1))) hb); have n3_ := Aside0.mk (Kd.R_below (by (with_reducible repeat (first | apply Kd.R_alloc | apply Kd.R_drewN | apply Kd.R_drew)); exact (Kd.R_mono (Kd.R_far (p := ⟨gb761, 2, none⟩) (Kd.R_far (p := ⟨gb761, 1, none⟩) (Kd.R_far (p := ⟨gb761, 0, none⟩) (Kd.R_types HO723.out BK761.out (by decide)) (fun _ hk => hk.2) (.int .i64 t750)) (fun _ hk => hk.2) (.slice Ao59 t751.length co59)) (fun _ hk => hk.2) (.slice Ao60 t754.length co60)) (fun _ h_ => h_.1))) hb); have n4_ := Aside0.mk (Kd.R_below (by (with_reducible repeat (first | apply Kd.R_alloc | apply Kd.R_drewN | apply Kd.R_drew)); exact (Kd.R_mono (Kd.R_far (p := ⟨gb761, 2, none⟩) (Kd.R_far (p := ⟨gb761, 1, none⟩) (Kd.R_far (p := ⟨gb761, 0, none⟩) (Kd.R_types HO727.out BK761.out (by decide)) (fun _ hk => hk.2) (.int .i64 t750)) (fun _ hk => hk.2) (.slice Ao59 t751.length co59)) (fun _ hk => hk.2) (.slice Ao60 t754.length co60)) (fun _ h_ => h_.1))) hb); have n5_ := Aside0.mk (Kd.R_below (by (with_reducible repeat (first | apply Kd.R_alloc | apply Kd.R_drewN | apply Kd.R_drew)); exact (Kd.R_mono (Kd.R_far (p := ⟨gb761, 2, none⟩) (Kd.R_far (p := ⟨gb761, 1, none⟩) (Kd.R_far (p := ⟨gb761, 0, none⟩) (Kd.R_types HO730.out BK761.out (by decide)) (fun _ hk => hk.2) (.int .i64 t750)) (fun _ hk => hk.2) (.slice Ao59 t751.length co59)) (fun _ hk => hk.2) (.slice Ao60 t754.length co60)) (fun _ h_ => h_.1))) hb); have n6_ := Aside0.mk (Kd.R_below (by (with_reducible repeat (first | apply Kd.R_alloc | apply Kd.R_drewN | apply Kd.R_drew)); exact (Kd.R_mono (Kd.R_far (p := ⟨gb761, 2, none⟩) (Kd.R_far (p := ⟨gb761, 1, none⟩) (Kd.R_far (p := ⟨gb761, 0, none⟩) (Kd.R_types HO733.out BK761.out (by decide)) (fun _ hk => hk.2) (.int .i64 t750)) (fun _ hk => hk.2) (.slice Ao59 t751.length co59)) (fun _ hk => hk.2) (.slice Ao60 t754.length co60)) (fun _ h_ => h_.1))) hb); have n7_ := Aside0.mk (Kd.R_below (by (with_reducible repeat (first | apply Kd.R_alloc | apply Kd.R_drewN | apply Kd.R_drew)); exact (Kd.R_mono (Kd.R_far (p := ⟨gb761, 2, none⟩) (Kd.R_far (p := ⟨gb761, 1, none⟩) (Kd.R_far (p := ⟨gb761, 0, none⟩) (Kd.R_types HO739.out BK761.out (by decide)) (fun _ hk => hk.2) (.int .i64 t750)) (fun _ hk => hk.2) (.slice Ao59 t751.length co59)) (fun _ hk => hk.2) (.slice Ao60 t754.length co60)) (fun _ h_ => h_.1))) hb); have n8_ := Aside0.mk (Kd.R_below (by (with_reducible repeat (first | apply Kd.R_alloc | apply Kd.R_drewN | apply Kd.R_drew)); exact (Kd.R_mono (Kd.R_far (p := ⟨gb761, 2, none⟩) (Kd.R_far (p := ⟨gb761, 1, none⟩) (Kd.R_far (p := ⟨gb761, 0, none⟩) (Kd.R_types HO742.out BK761.out (by decide)) (fun _ hk => hk.2) (.int .i64 t750)) (fun _ hk => hk.2) (.slice Ao59 t751.length co59)) (fun _ hk => hk.2) (.slice Ao60 t754.length co60)) (fun _ h_ => h_.1))) hb); have n9_ := Aside0.mk (Kd.R_below (by (with_reducible repeat (first | apply Kd.R_alloc | apply Kd.R_drewN | apply Kd.R_drew)); exact (Kd.R_mono (Kd.R_far (p := ⟨gb761, 2, none⟩) (Kd.R_far (p := ⟨gb761, 1, none⟩) (Kd.R_far (p := ⟨gb761, 0, none⟩) (Kd.R_types HO746.out BK761.out (by decide)) (fun _ hk => hk.2) (.int .i64 t750)) (fun _ hk => hk.2) (.slice Ao59 t751.length co59)) (fun _ hk => hk.2) (.slice Ao60 t754.length co60)) (fun _ h_ => h_.1))) hb); have n10_ := Aside0.mk (Kd.R_below (by (with_reducible repeat (first | apply Kd.R_alloc | apply Kd.R_drewN | apply Kd.R_drew)); exact (Kd.R_mono (Kd.R_far (p := ⟨gb761, 2, none⟩) (Kd.R_far (p := ⟨gb761, 1, none⟩) (Kd.R_far (p := ⟨gb761, 0, none⟩) (Kd.R_types HO749.out BK761.out (by decide)) (fun _ hk => hk.2) (.int .i64 t750)) (fun _ hk => hk.2) (.slice Ao59 t751.length co59)) (fun _ hk => hk.2) (.slice Ao60 t754.length co60)) (fun _ h_ => h_.1))) hb); have n11_ := Aside0.mk (Kd.R_below (by (with_reducible repeat (first | apply Kd.R_alloc | apply Kd.R_drewN | apply Kd.R_drew)); exact (Kd.R_mono (Kd.R_far (p := ⟨gb761, 2, none⟩) (Kd.R_far (p := ⟨gb761, 1, none⟩) (Kd.R_far (p := ⟨gb761, 0, none⟩) (Kd.R_types HO753.out BK761.out (by decide)) (fun _ hk => hk.2) (.int .i64 t750)) (fun _ hk => hk.2) (.slice Ao59 t751.length co59)) (fun _ hk => hk.2) (.slice Ao60 t754.length co60)) (fun _ h_ => h_.1))) hb); have n12_ := Aside0.mk (Kd.R_below (by (with_reducible repeat (first | apply Kd.R_alloc | apply Kd.R_drewN | apply Kd.R_drew)); exact (Kd.R_mono (Kd.R_far (p := ⟨gb761, 2, none⟩) (Kd.R_far (p := ⟨gb761, 1, none⟩) (Kd.R_far (p := ⟨gb761, 0, none⟩) (Kd.R_types HO756.out BK761.out (by decide)) (fun _ hk => hk.2) (.int .i64 t750)) (fun _ hk => hk.2) (.slice Ao59 t751.length co59)) (fun _ hk => hk.2) (.slice Ao60 t754.length co60)) (fun _ h_ => h_.1))) hb); have n13_ := Aside0.mk (Kd.R_below (by (with_reducible repeat (first | apply Kd.R_alloc | apply Kd.R_drewN | apply Kd.R_drew)); exact (Kd.R_mono (Kd.R_far (p := ⟨gb761, 2, none⟩) (Kd.R_far (p := ⟨gb761, 1, none⟩) (Kd.R_far (p := ⟨gb761, 0, none⟩) (Kd.R_types HO759.out BK761.out (by decide)) (fun _ hk => hk.2) (.int .i64 t750)) (fun _ hk => hk.2) (.slice Ao59 t751.length co59)) (fun _ hk => hk.2) (.slice Ao60 t754.length co60)) (fun _ h_ => h_.1))) hb); have n14_ := Aside0.mk (blk_below (g := gb709) (o := .cells #[.int .i64 a0_0, .slice A0_1 l0_1.length c0_1, .slice A0_2 l0_2.length c0_2] 25 (0, 0)) (qF BK709.out) hb); have n15_ := Aside0.mk (blk_below (g := gb735) (o := .cells #[.int .i64 t724, .slice Ao38 t725.length co38, .slice Ao39 t728.length co39] 30 (0, 0)) (qF BK735.out) hb); have n16_ := Aside0.mk (blk_below (g := gb743) (o := .cells #[.int .i64 t736, .slice Ao46 t737.length co46, .slice Ao47 t740.length co47] 30 (0, 0)) (qF BK743.out) hb); have n17_ := Aside0.mk (blk_below (g := gb761) (o := .cells #[.int .i64 t750, .slice Ao59 t751.length co59, .slice Ao60 t754.length co60] 30 (0, 0)) (by (with_reducible repeat (first | refine blk_drewN ?_ _ | refine blk_drew ?_ | refine blk_alloc ?_ _)); refine blk_put (cs := #[.int .i64 t750, .slice Ao59 t751.length co59, .slice none 0 0]) ?_ 2 _ rfl; refine blk_put (cs := #[.int .i64 t750, .slice none 0 0, .slice none 0 0]) ?_ 1 _ rfl; refine blk_put (cs := #[.int .i64 0, .slice none 0 0, .slice none 0 0]) ?_ 0 _ rfl; exact qK BK761.out) hb); have n18_ := Aside0.mk (below_step (qB) hb); clear HO714; clear HO717; clear HO720; clear HO723; clear HO727; clear HO730; clear HO733; clear HO739; clear HO742; clear HO746; clear HO749; clear HO753; clear HO756; clear HO759; clear BK709; clear BK735; clear BK743; clear BK761; clear HB; have HO714 := n0_; have HO717 := n1_; have HO720 := n2_; have HO723 := n3_; have HO727 := n4_; have HO730 := n5_; have HO733 := n6_; have HO739 := n7_; have HO742 := n8_; have HO746 := n9_; have HO749 := n10_; have HO753 := n11_; have HO756 := n12_; have HO759 := n13_; have BK709 := n14_; have BK735 := n15_; have BK743 := n16_; have BK761 := n17_; have HB := n18_; clear n0_ n1_ n2_ n3_ n4_ n5_ n6_ n7_ n8_ n9_ n10_ n11_ n12_ n13_ n14_ n15_ n16_ n17_ n18_; (try clear hb); (try clear hb2); (try clear hk); (try clear hi); obtain ⟨Ao73, co73, eo73⟩ := Kd.R_slice HO759.out; subst eo73; obtain ⟨Ao74, co74, eo74⟩ := Kd.R_slice HO733.out; subst eo74) | (go_at_call 27; (with_reducible refine (laws_eqIntS.calls k _ _ t757 _ _ t731 true _ ?side1 ?side2 ?side3 ?side4 A63.out).mono ?_); (case side1 => repeat (first | exact (Kd.R_reads' HO759.out).2.2 | (with_reducible refine Kd.C_alloc ?_ _) | (with_reducible refine Kd.C_drewN ?_ _) | (with_reducible refine Kd.C_drew ?_))); (case side2 => exact (Kd.R_reads' HO759.out).2.1); (case side3 => repeat (first | exact (Kd.R_reads' HO733.out).2.2 | (with_reducible refine Kd.C_alloc ?_ _) | (with_reducible refine Kd.C_drewN ?_ _) | (with_reducible refine Kd.C_drew ?_))); (case side4 => exact (Kd.R_reads' HO733.out).2.1); rintro e w' ⟨rfl, ⟨nd, rfl⟩⟩))
       go_meet
       case rel => exact ⟨_, ((t760 != t734)), qS, H', ⟨by first | omega | exact Nat.le_refl _⟩, ⟨by (with_reducible repeat (first | apply Kd.R_alloc | apply Kd.R_drewN | apply Kd.R_drew)); exact Kd.R_mono HO733.out (fun _ hk => ⟨hk.1.1.1.2, ⟨hk.1.1.2, ⟨hk.2, ⟨hk.1.1.1.1.1.1.1.1, ⟨hk.1.1.1.1.2, hk.1.2⟩⟩⟩⟩⟩)⟩, ⟨by (with_reducible repeat (first | apply Kd.R_alloc | apply Kd.R_drewN | apply Kd.R_drew)); exact Kd.R_mono HO746.out (fun _ hk => ⟨hk.1.1.1.1.2, ⟨hk.1.1.2, ⟨hk.2, ⟨hk.1.1.1.1.1.2, ⟨hk.1.1.1.2, hk.1.2⟩⟩⟩⟩⟩)⟩, ⟨by (with_reducible repeat (first | apply Kd.R_alloc | apply Kd.R_drewN | apply Kd.R_drew)); exact Kd.R_mono HO749.out (fun _ hk => ⟨hk.1.1.1.1.2, ⟨hk.1.1.2, ⟨hk.2, ⟨hk.1.1.1.1.1.2, ⟨hk.1.1.1.2, hk.1.2⟩⟩⟩⟩⟩)⟩, ⟨by (with_reducible repeat (first | apply Kd.R_alloc | apply Kd.R_drewN | apply Kd.R_drew)); exact Kd.R_mono HO759.out (fun _ hk => ⟨hk.1.1.1.2, ⟨hk.1.2, ⟨hk.2, ⟨hk.1.1.1.1.2, ⟨hk.1.1.2, hk.1.1.1.1.1.1.1.1⟩⟩⟩⟩⟩)⟩, ⟨by (with_reducible repeat (first | apply Kd.R_alloc | apply Kd.R_drewN | apply Kd.R_drew)); exact Kd.R_mono HO727.out (fun _ hk => ⟨hk.1.2, hk.2⟩)⟩, ⟨by (with_reducible repeat (first | apply Kd.R_alloc | apply Kd.R_drewN | apply Kd.R_drew)); exact Kd.R_mono HO730.out (fun _ hk => ⟨hk.1.1.1.1.1.1.1.1, ⟨hk.1.1.1.2, ⟨hk.1.1.2, ⟨hk.2, ⟨hk.1.1.1.1.2, hk.1.2⟩⟩⟩⟩⟩)⟩, ⟨by (with_reducible repeat (first | apply Kd.R_alloc | apply Kd.R_drewN | apply Kd.R_drew)); exact Kd.R_mono HO739.out (fun _ hk => ⟨hk.1.2, hk.2⟩)⟩, ⟨by (with_reducible repeat (first | apply Kd.R_alloc | apply Kd.R_drewN | apply Kd.R_drew)); exact Kd.R_mono HO742.out (fun _ hk => ⟨hk.1.1.1.1.2, ⟨hk.1.1.1.2, ⟨hk.1.1.2, ⟨hk.2, ⟨hk.1.1.1.1.1.2, hk.1.2⟩⟩⟩⟩⟩)⟩, ⟨by (with_reducible repeat (first | apply Kd.R_alloc | apply Kd.R_drewN | apply Kd.R_drew)); exact Kd.R_mono HO753.out (fun _ hk => ⟨hk.1.2, hk.2⟩)⟩, ⟨by (with_reducible repeat (first | apply Kd.R_alloc | apply Kd.R_drewN | apply Kd.R_drew)); exact Kd.R_mono HO756.out (fun _ hk => ⟨hk.1.1.1.2, ⟨hk.1.2, ⟨hk.2, ⟨hk.1.1.1.1.1.1.1.1, ⟨hk.1.1.1.1.2, hk.1.1.2⟩⟩⟩⟩⟩)⟩, ⟨by exact qK BK709.out⟩, ⟨by exact qK BK735.out⟩, ⟨by exact qK BK743.out⟩, ⟨by exact qK BK761.out⟩, ⟨qB⟩⟩
      ·replace c64 := Bool.eq_false_iff.mpr c64
       subst c64
       have H1 : (laws_FnExactAddGates.j0 k l1 l2 a3 t731 t734 t744 t747 t757 t760 true a0_0 l0_1 l0_2 t724 t725 t728 t736 t737 t740 t750 t751 t754) = some true := by rw [if_neg (show ¬ (false = true) by decide)] at H; exact H
       exact absurd H1 (by cases k <;> simp [laws_FnExactAddGates.j0])
     ·replace c62 := Bool.eq_false_iff.mpr c62
      subst c62
      have H1 : (laws_FnExactAddGates.j0 k l1 l2 a3 t731 t734 t744 t747 t757 t760 true a0_0 l0_1 l0_2 t724 t725 t728 t736 t737 t740 t750 t751 t754) = some true := by rw [if_neg (show ¬ (false = true) by decide)] at H; exact H
      exact absurd H1 (by cases k <;> simp [laws_FnExactAddGates.j0])
    case rest =>
     clear HC22
     try clear p2
     try clear c5b0
     try clear c5b1
     try clear c7b0
     try clear c7b1
     try clear c10b0
     try clear hcz12_0
     try clear hcz12_1
     try clear hcz12_2
     try clear hcz24_0
     try clear hcz24_1
     try clear hcz24_2
     try clear hcz26_0
     try clear hcz26_1
     try clear hcz26_2
     try clear hcz37_0
     try clear hcz37_1
     try clear hcz37_2
     try clear hcz40_0
     try clear hcz40_1
     try clear hcz40_2
     try clear hcz45_0
     try clear hcz45_1
     try clear hcz45_2
     try clear hcz50_0
     try clear hcz50_1
     try clear hcz50_2
     try clear hcz58_0
     try clear hcz58_1
     try clear hcz58_2
     try clear hcz68_0
     try clear hcz68_1
     try clear hcz68_2
     try clear hcz71_0
     try clear hcz71_1
     try clear hcz71_2
     try clear hcz78_0
     try clear hcz78_1
     try clear hcz78_2
     try clear hcz81_0
     try clear hcz81_1
     try clear hcz81_2
     try clear hcz88_0
     try clear hcz88_1
     try clear hcz88_2
     try clear hcz91_0
     try clear hcz91_1
     try clear hcz91_2
     try clear hfz12_0
     try clear hfz12_1
     try clear hfz12_2
     try clear hfz24_0
     try clear hfz24_1
     try clear hfz24_2
     try clear hfz26_0
     try clear hfz26_1
     try clear hfz26_2
     try clear hfz37_0
     try clear hfz37_1
     try clear hfz37_2
     try clear hfz40_0
     try clear hfz40_1
     try clear hfz40_2
     try clear hfz45_0
     try clear hfz45_1
     try clear hfz45_2
     try clear hfz50_0
     try clear hfz50_1
     try clear hfz50_2
     try clear hfz58_0
     try clear hfz58_1
     try clear hfz58_2
     try clear hfz68_0
     try clear hfz68_1
     try clear hfz68_2
     try clear hfz71_0
     try clear hfz71_1
     try clear hfz71_2
     try clear hfz78_0
     try clear hfz78_1
     try clear hfz78_2
     try clear hfz81_0
     try clear hfz81_1
     try clear hfz81_2
     try clear hfz88_0
     try clear hfz88_1
     try clear hfz88_2
     try clear hfz91_0
     try clear hfz91_1
     try clear hfz91_2
     obtain ⟨kq, x77_21, rfl, HA, HJ21, HO_11, HO_14, HO_15, HO_17, HO_736001, HO_736002, HO_744001, HO_744002, HO_762001, HO_762002, BK709, BK735, BK743, BK761, HB⟩ := hcut
     cases kq with
     | zero => exact absurd HA.out (by simp [laws_FnExactAddGates.j0])
     | succ kj21 =>
      have H := HA.out
      clear HA
      simp only [laws_FnExactAddGates.j0] at H
      by_cases c93 : x77_21 = true
      ·subst c93
       have H1 : (some false) = some true := by rw [if_pos rfl] at H; exact H
       exact absurd H1 (by simp)
      ·replace c93 := Bool.eq_false_iff.mpr c93
       subst c93
       have H1 : ((laws_toCircuit.f kj21 a0_0 l0_1 l0_2).bind fun bt764 => ((laws_eqCircuit.f kj21 t736 t737 t740 bt764.1 bt764.2.1 bt764.2.2).bind fun t771 => (if t771 = true then ((laws_toIntS.f kj21 l1).bind fun t772 => ((laws_eqIntS.f kj21 t744 t772).bind fun t775 => (if t775 = true then ((laws_toIntS.f kj21 l2).bind fun t776 => ((laws_eqIntS.f kj21 t747 t776).bind fun t779 => (if t779 = true then ((laws_markCircuit.f kj21 t736 t737 t740 1).bind fun bt780 => ((laws_markIntS.f kj21 t744 bt780.1).bind fun bt783 => ((laws_markIntS.f kj21 t747 bt783.1).bind fun bt785 => (if bt785.1 < 0 then (laws_FnExactAddGates.j1 kj21 l1 l2 a3 t731 t734 t757 true a0_0 l0_1 l0_2 t724 t725 t728 t750 t751 t754) else ((laws_eqCircuit.f kj21 t750 t751 t754 t724 t725 t728).bind fun t787 => (if t787 = true then ((laws_eqIntS.f kj21 t757 t731).bind fun t788 => (if t788 = true then (laws_FnExactAddGates.j1 kj21 l1 l2 a3 t731 t734 t757 (t760 != t734) a0_0 l0_1 l0_2 t724 t725 t728 t750 t751 t754) else (laws_FnExactAddGates.j1 kj21 l1 l2 a3 t731 t734 t757 true a0_0 l0_1 l0_2 t724 t725 t728 t750 t751 t754))) else (laws_FnExactAddGates.j1 kj21 l1 l2 a3 t731 t734 t757 true a0_0 l0_1 l0_2 t724 t725 t728 t750 t751 t754))))))) else (some false)))) else (some false)))) else (some false)))) = some true := by rw [if_neg (show ¬ (false = true) by decide)] at H; exact H
       clear H
       have H := H1
       clear H1
       replace H := Option.bind_eq_some_iff.mp H
       obtain ⟨⟨t764, t765, t768⟩, A940, H⟩ := H
       replace H : ((laws_eqCircuit.f kj21 t736 t737 t740 t764 t765 t768).bind fun t771 => (if t771 = true then ((laws_toIntS.f kj21 l1).bind fun t772 => ((laws_eqIntS.f kj21 t744 t772).bind fun t775 => (if t775 = true then ((laws_toIntS.f kj21 l2).bind fun t776 => ((laws_eqIntS.f kj21 t747 t776).bind fun t779 => (if t779 = true then ((laws_markCircuit.f kj21 t736 t737 t740 1).bind fun bt780 => ((laws_markIntS.f kj21 t744 bt780.1).bind fun bt783 => ((laws_markIntS.f kj21 t747 bt783.1).bind fun bt785 => (if bt785.1 < 0 then (laws_FnExactAddGates.j1 kj21 l1 l2 a3 t731 t734 t757 true a0_0 l0_1 l0_2 t724 t725 t728 t750 t751 t754) else ((laws_eqCircuit.f kj21 t750 t751 t754 t724 t725 t728).bind fun t787 => (if t787 = true then ((laws_eqIntS.f kj21 t757 t731).bind fun t788 => (if t788 = true then (laws_FnExactAddGates.j1 kj21 l1 l2 a3 t731 t734 t757 (t760 != t734) a0_0 l0_1 l0_2 t724 t725 t728 t750 t751 t754) else (laws_FnExactAddGates.j1 kj21 l1 l2 a3 t731 t734 t757 true a0_0 l0_1 l0_2 t724 t725 t728 t750 t751 t754))) else (laws_FnExactAddGates.j1 kj21 l1 l2 a3 t731 t734 t757 true a0_0 l0_1 l0_2 t724 t725 t728 t750 t751 t754))))))) else (some false)))) else (some false)))) else (some false))) = some true := H
       have A94 := Aside0.mk A940
       clear A940
       replace H := Option.bind_eq_some_iff.mp H
       obtain ⟨t771, A950, H⟩ := H
       replace H : (if t771 = true then ((laws_toIntS.f kj21 l1).bind fun t772 => ((laws_eqIntS.f kj21 t744 t772).bind fun t775 => (if t775 = true then ((laws_toIntS.f kj21 l2).bind fun t776 => ((laws_eqIntS.f kj21 t747 t776).bind fun t779 => (if t779 = true then ((laws_markCircuit.f kj21 t736 t737 t740 1).bind fun bt780 => ((laws_markIntS.f kj21 t744 bt780.1).bind fun bt783 => ((laws_markIntS.f kj21 t747 bt783.1).bind fun bt785 => (if bt785.1 < 0 then (laws_FnExactAddGates.j1 kj21 l1 l2 a3 t731 t734 t757 true a0_0 l0_1 l0_2 t724 t725 t728 t750 t751 t754) else ((laws_eqCircuit.f kj21 t750 t751 t754 t724 t725 t728).bind fun t787 => (if t787 = true then ((laws_eqIntS.f kj21 t757 t731).bind fun t788 => (if t788 = true then (laws_FnExactAddGates.j1 kj21 l1 l2 a3 t731 t734 t757 (t760 != t734) a0_0 l0_1 l0_2 t724 t725 t728 t750 t751 t754) else (laws_FnExactAddGates.j1 kj21 l1 l2 a3 t731 t734 t757 true a0_0 l0_1 l0_2 t724 t725 t728 t750 t751 t754))) else (laws_FnExactAddGates.j1 kj21 l1 l2 a3 t731 t734 t757 true a0_0 l0_1 l0_2 t724 t725 t728 t750 t751 t754))))))) else (some false)))) else (some false)))) else (some false)) = some true := H
       have A95 := Aside0.mk A950
       clear A950
       by_cases c96 : t771 = true
       ·subst c96
        have H1 : ((laws_toIntS.f kj21 l1).bind fun t772 => ((laws_eqIntS.f kj21 t744 t772).bind fun t775 => (if t775 = true then ((laws_toIntS.f kj21 l2).bind fun t776 => ((laws_eqIntS.f kj21 t747 t776).bind fun t779 => (if t779 = true then ((laws_markCircuit.f kj21 t736 t737 t740 1).bind fun bt780 => ((laws_markIntS.f kj21 t744 bt780.1).bind fun bt783 => ((laws_markIntS.f kj21 t747 bt783.1).bind fun bt785 => (if bt785.1 < 0 then (laws_FnExactAddGates.j1 kj21 l1 l2 a3 t731 t734 t757 true a0_0 l0_1 l0_2 t724 t725 t728 t750 t751 t754) else ((laws_eqCircuit.f kj21 t750 t751 t754 t724 t725 t728).bind fun t787 => (if t787 = true then ((laws_eqIntS.f kj21 t757 t731).bind fun t788 => (if t788 = true then (laws_FnExactAddGates.j1 kj21 l1 l2 a3 t731 t734 t757 (t760 != t734) a0_0 l0_1 l0_2 t724 t725 t728 t750 t751 t754) else (laws_FnExactAddGates.j1 kj21 l1 l2 a3 t731 t734 t757 true a0_0 l0_1 l0_2 t724 t725 t728 t750 t751 t754))) else (laws_FnExactAddGates.j1 kj21 l1 l2 a3 t731 t734 t757 true a0_0 l0_1 l0_2 t724 t725 t728 t750 t751 t754))))))) else (some false)))) else (some false)))) = some true := by rw [if_pos rfl] at H; exact H
        clear H
        have H := H1
        clear H1
        replace H := Option.bind_eq_some_iff.mp H
        obtain ⟨t772, A970, H⟩ := H
        replace H : ((laws_eqIntS.f kj21 t744 t772).bind fun t775 => (if t775 = true then ((laws_toIntS.f kj21 l2).bind fun t776 => ((laws_eqIntS.f kj21 t747 t776).bind fun t779 => (if t779 = true then ((laws_markCircuit.f kj21 t736 t737 t740 1).bind fun bt780 => ((laws_markIntS.f kj21 t744 bt780.1).bind fun bt783 => ((laws_markIntS.f kj21 t747 bt783.1).bind fun bt785 => (if bt785.1 < 0 then (laws_FnExactAddGates.j1 kj21 l1 l2 a3 t731 t734 t757 true a0_0 l0_1 l0_2 t724 t725 t728 t750 t751 t754) else ((laws_eqCircuit.f kj21 t750 t751 t754 t724 t725 t728).bind fun t787 => (if t787 = true then ((laws_eqIntS.f kj21 t757 t731).bind fun t788 => (if t788 = true then (laws_FnExactAddGates.j1 kj21 l1 l2 a3 t731 t734 t757 (t760 != t734) a0_0 l0_1 l0_2 t724 t725 t728 t750 t751 t754) else (laws_FnExactAddGates.j1 kj21 l1 l2 a3 t731 t734 t757 true a0_0 l0_1 l0_2 t724 t725 t728 t750 t751 t754))) else (laws_FnExactAddGates.j1 kj21 l1 l2 a3 t731 t734 t757 true a0_0 l0_1 l0_2 t724 t725 t728 t750 t751 t754))))))) else (some false)))) else (some false))) = some true := H
        have A97 := Aside0.mk A970
        clear A970
        replace H := Option.bind_eq_some_iff.mp H
        obtain ⟨t775, A980, H⟩ := H
        replace H : (if t775 = true then ((laws_toIntS.f kj21 l2).bind fun t776 => ((laws_eqIntS.f kj21 t747 t776).bind fun t779 => (if t779 = true then ((laws_markCircuit.f kj21 t736 t737 t740 1).bind fun bt780 => ((laws_markIntS.f kj21 t744 bt780.1).bind fun bt783 => ((laws_markIntS.f kj21 t747 bt783.1).bind fun bt785 => (if bt785.1 < 0 then (laws_FnExactAddGates.j1 kj21 l1 l2 a3 t731 t734 t757 true a0_0 l0_1 l0_2 t724 t725 t728 t750 t751 t754) else ((laws_eqCircuit.f kj21 t750 t751 t754 t724 t725 t728).bind fun t787 => (if t787 = true then ((laws_eqIntS.f kj21 t757 t731).bind fun t788 => (if t788 = true then (laws_FnExactAddGates.j1 kj21 l1 l2 a3 t731 t734 t757 (t760 != t734) a0_0 l0_1 l0_2 t724 t725 t728 t750 t751 t754) else (laws_FnExactAddGates.j1 kj21 l1 l2 a3 t731 t734 t757 true a0_0 l0_1 l0_2 t724 t725 t728 t750 t751 t754))) else (laws_FnExactAddGates.j1 kj21 l1 l2 a3 t731 t734 t757 true a0_0 l0_1 l0_2 t724 t725 t728 t750 t751 t754))))))) else (some false)))) else (some false)) = some true := H
        have A98 := Aside0.mk A980
        clear A980
        by_cases c99 : t775 = true
        ·subst c99
         have H1 : ((laws_toIntS.f kj21 l2).bind fun t776 => ((laws_eqIntS.f kj21 t747 t776).bind fun t779 => (if t779 = true then ((laws_markCircuit.f kj21 t736 t737 t740 1).bind fun bt780 => ((laws_markIntS.f kj21 t744 bt780.1).bind fun bt783 => ((laws_markIntS.f kj21 t747 bt783.1).bind fun bt785 => (if bt785.1 < 0 then (laws_FnExactAddGates.j1 kj21 l1 l2 a3 t731 t734 t757 true a0_0 l0_1 l0_2 t724 t725 t728 t750 t751 t754) else ((laws_eqCircuit.f kj21 t750 t751 t754 t724 t725 t728).bind fun t787 => (if t787 = true then ((laws_eqIntS.f kj21 t757 t731).bind fun t788 => (if t788 = true then (laws_FnExactAddGates.j1 kj21 l1 l2 a3 t731 t734 t757 (t760 != t734) a0_0 l0_1 l0_2 t724 t725 t728 t750 t751 t754) else (laws_FnExactAddGates.j1 kj21 l1 l2 a3 t731 t734 t757 true a0_0 l0_1 l0_2 t724 t725 t728 t750 t751 t754))) else (laws_FnExactAddGates.j1 kj21 l1 l2 a3 t731 t734 t757 true a0_0 l0_1 l0_2 t724 t725 t728 t750 t751 t754))))))) else (some false)))) = some true := by rw [if_pos rfl] at H; exact H
         clear H
         have H := H1
         clear H1
         replace H := Option.bind_eq_some_iff.mp H
         obtain ⟨t776, A1000, H⟩ := H
         replace H : ((laws_eqIntS.f kj21 t747 t776).bind fun t779 => (if t779 = true then ((laws_markCircuit.f kj21 t736 t737 t740 1).bind fun bt780 => ((laws_markIntS.f kj21 t744 bt780.1).bind fun bt783 => ((laws_markIntS.f kj21 t747 bt783.1).bind fun bt785 => (if bt785.1 < 0 then (laws_FnExactAddGates.j1 kj21 l1 l2 a3 t731 t734 t757 true a0_0 l0_1 l0_2 t724 t725 t728 t750 t751 t754) else ((laws_eqCircuit.f kj21 t750 t751 t754 t724 t725 t728).bind fun t787 => (if t787 = true then ((laws_eqIntS.f kj21 t757 t731).bind fun t788 => (if t788 = true then (laws_FnExactAddGates.j1 kj21 l1 l2 a3 t731 t734 t757 (t760 != t734) a0_0 l0_1 l0_2 t724 t725 t728 t750 t751 t754) else (laws_FnExactAddGates.j1 kj21 l1 l2 a3 t731 t734 t757 true a0_0 l0_1 l0_2 t724 t725 t728 t750 t751 t754))) else (laws_FnExactAddGates.j1 kj21 l1 l2 a3 t731 t734 t757 true a0_0 l0_1 l0_2 t724 t725 t728 t750 t751 t754))))))) else (some false))) = some true := H
         have A100 := Aside0.mk A1000
         clear A1000
         replace H := Option.bind_eq_some_iff.mp H
         obtain ⟨t779, A1010, H⟩ := H
         replace H : (if t779 = true then ((laws_markCircuit.f kj21 t736 t737 t740 1).bind fun bt780 => ((laws_markIntS.f kj21 t744 bt780.1).bind fun bt783 => ((laws_markIntS.f kj21 t747 bt783.1).bind fun bt785 => (if bt785.1 < 0 then (laws_FnExactAddGates.j1 kj21 l1 l2 a3 t731 t734 t757 true a0_0 l0_1 l0_2 t724 t725 t728 t750 t751 t754) else ((laws_eqCircuit.f kj21 t750 t751 t754 t724 t725 t728).bind fun t787 => (if t787 = true then ((laws_eqIntS.f kj21 t757 t731).bind fun t788 => (if t788 = true then (laws_FnExactAddGates.j1 kj21 l1 l2 a3 t731 t734 t757 (t760 != t734) a0_0 l0_1 l0_2 t724 t725 t728 t750 t751 t754) else (laws_FnExactAddGates.j1 kj21 l1 l2 a3 t731 t734 t757 true a0_0 l0_1 l0_2 t724 t725 t728 t750 t751 t754))) else (laws_FnExactAddGates.j1 kj21 l1 l2 a3 t731 t734 t757 true a0_0 l0_1 l0_2 t724 t725 t728 t750 t751 t754))))))) else (some false)) = some true := H
         have A101 := Aside0.mk A1010
         clear A1010
         by_cases c102 : t779 = true
         ·subst c102
          have H1 : ((laws_markCircuit.f kj21 t736 t737 t740 1).bind fun bt780 => ((laws_markIntS.f kj21 t744 bt780.1).bind fun bt783 => ((laws_markIntS.f kj21 t747 bt783.1).bind fun bt785 => (if bt785.1 < 0 then (laws_FnExactAddGates.j1 kj21 l1 l2 a3 t731 t734 t757 true a0_0 l0_1 l0_2 t724 t725 t728 t750 t751 t754) else ((laws_eqCircuit.f kj21 t750 t751 t754 t724 t725 t728).bind fun t787 => (if t787 = true then ((laws_eqIntS.f kj21 t757 t731).bind fun t788 => (if t788 = true then (laws_FnExactAddGates.j1 kj21 l1 l2 a3 t731 t734 t757 (t760 != t734) a0_0 l0_1 l0_2 t724 t725 t728 t750 t751 t754) else (laws_FnExactAddGates.j1 kj21 l1 l2 a3 t731 t734 t757 true a0_0 l0_1 l0_2 t724 t725 t728 t750 t751 t754))) else (laws_FnExactAddGates.j1 kj21 l1 l2 a3 t731 t734 t757 true a0_0 l0_1 l0_2 t724 t725 t728 t750 t751 t754))))))) = some true := by rw [if_pos rfl] at H; exact H
          clear H
          have H := H1
          clear H1
          replace H := Option.bind_eq_some_iff.mp H
          obtain ⟨⟨t780, t781, t782⟩, A1030, H⟩ := H
          replace H : ((laws_markIntS.f kj21 t744 t780).bind fun bt783 => ((laws_markIntS.f kj21 t747 bt783.1).bind fun bt785 => (if bt785.1 < 0 then (laws_FnExactAddGates.j1 kj21 l1 l2 a3 t731 t734 t757 true a0_0 l0_1 l0_2 t724 t725 t728 t750 t751 t754) else ((laws_eqCircuit.f kj21 t750 t751 t754 t724 t725 t728).bind fun t787 => (if t787 = true then ((laws_eqIntS.f kj21 t757 t731).bind fun t788 => (if t788 = true then (laws_FnExactAddGates.j1 kj21 l1 l2 a3 t731 t734 t757 (t760 != t734) a0_0 l0_1 l0_2 t724 t725 t728 t750 t751 t754) else (laws_FnExactAddGates.j1 kj21 l1 l2 a3 t731 t734 t757 true a0_0 l0_1 l0_2 t724 t725 t728 t750 t751 t754))) else (laws_FnExactAddGates.j1 kj21 l1 l2 a3 t731 t734 t757 true a0_0 l0_1 l0_2 t724 t725 t728 t750 t751 t754)))))) = some true := H
          have A103 := Aside0.mk A1030
          clear A1030
          replace H := Option.bind_eq_some_iff.mp H
          obtain ⟨⟨t783, t784⟩, A1040, H⟩ := H
          replace H : ((laws_markIntS.f kj21 t747 t783).bind fun bt785 => (if bt785.1 < 0 then (laws_FnExactAddGates.j1 kj21 l1 l2 a3 t731 t734 t757 true a0_0 l0_1 l0_2 t724 t725 t728 t750 t751 t754) else ((laws_eqCircuit.f kj21 t750 t751 t754 t724 t725 t728).bind fun t787 => (if t787 = true then ((laws_eqIntS.f kj21 t757 t731).bind fun t788 => (if t788 = true then (laws_FnExactAddGates.j1 kj21 l1 l2 a3 t731 t734 t757 (t760 != t734) a0_0 l0_1 l0_2 t724 t725 t728 t750 t751 t754) else (laws_FnExactAddGates.j1 kj21 l1 l2 a3 t731 t734 t757 true a0_0 l0_1 l0_2 t724 t725 t728 t750 t751 t754))) else (laws_FnExactAddGates.j1 kj21 l1 l2 a3 t731 t734 t757 true a0_0 l0_1 l0_2 t724 t725 t728 t750 t751 t754))))) = some true := H
          have A104 := Aside0.mk A1040
          clear A1040
          replace H := Option.bind_eq_some_iff.mp H
          obtain ⟨⟨t785, t786⟩, A1050, H⟩ := H
          replace H : (if t785 < 0 then (laws_FnExactAddGates.j1 kj21 l1 l2 a3 t731 t734 t757 true a0_0 l0_1 l0_2 t724 t725 t728 t750 t751 t754) else ((laws_eqCircuit.f kj21 t750 t751 t754 t724 t725 t728).bind fun t787 => (if t787 = true then ((laws_eqIntS.f kj21 t757 t731).bind fun t788 => (if t788 = true then (laws_FnExactAddGates.j1 kj21 l1 l2 a3 t731 t734 t757 (t760 != t734) a0_0 l0_1 l0_2 t724 t725 t728 t750 t751 t754) else (laws_FnExactAddGates.j1 kj21 l1 l2 a3 t731 t734 t757 true a0_0 l0_1 l0_2 t724 t725 t728 t750 t751 t754))) else (laws_FnExactAddGates.j1 kj21 l1 l2 a3 t731 t734 t757 true a0_0 l0_1 l0_2 t724 t725 t728 t750 t751 t754)))) = some true := H
          have A105 := Aside0.mk A1050
          clear A1050
          have HC106 := Aside0.mk H
          clear H
          try go_wp2
          have n0_ := Aside0.mk (Kd.R_drew HO_11.out)
          have n1_ := Aside0.mk (Kd.R_drew HO_14.out)
          have n2_ := Aside0.mk (Kd.R_drew HO_15.out)
          have n3_ := Aside0.mk (Kd.R_drew HO_17.out)
          have n4_ := Aside0.mk (Kd.R_drew HO_736001.out)
          have n5_ := Aside0.mk (Kd.R_drew HO_736002.out)
          have n6_ := Aside0.mk (Kd.R_drew HO_744001.out)
          have n7_ := Aside0.mk (Kd.R_drew HO_744002.out)
          have n8_ := Aside0.mk (Kd.R_drew HO_762001.out)
          have n9_ := Aside0.mk (Kd.R_drew HO_762002.out)
          have n10_ := Aside0.mk (blk_drew BK709.out)
          have n11_ := Aside0.mk (blk_drew BK735.out)
          have n12_ := Aside0.mk (blk_drew BK743.out)
          have n13_ := Aside0.mk (blk_drew BK761.out)
          have n14_ := Aside0.mk (below_drew1 HB.out)
          clear HO_11
          clear HO_14
          clear HO_15
          clear HO_17
          clear HO_736001
          clear HO_736002
          clear HO_744001
          clear HO_744002
          clear HO_762001
          clear HO_762002
          clear BK709
          clear BK735
          clear BK743
          clear BK761
          clear HB
          have HO_11 := n0_
          have HO_14 := n1_
          have HO_15 := n2_
          have HO_17 := n3_
          have HO_736001 := n4_
          have HO_736002 := n5_
          have HO_744001 := n6_
          have HO_744002 := n7_
          have HO_762001 := n8_
          have HO_762002 := n9_
          have BK709 := n10_
          have BK735 := n11_
          have BK743 := n12_
          have BK761 := n13_
          have HB := n14_
          clear n0_ n1_ n2_ n3_ n4_ n5_ n6_ n7_ n8_ n9_ n10_ n11_ n12_ n13_ n14_
          refine start_ (n := 5) (S := fun w' => w'.cell? ⟨gb743, 0, none⟩ = some (.int .i64 t736) ∧ w'.cell? ⟨gb743, 1, none⟩ = some (.slice Ao46 t737.length co46) ∧ w'.cell? ⟨gb743, 2, none⟩ = some (.slice Ao47 t740.length co47) ∧ w'.cell? ⟨gb709, 0, none⟩ = some (.int .i64 a0_0) ∧ w'.cell? ⟨gb709, 1, none⟩ = some (.slice A0_1 l0_1.length c0_1) ∧ w'.cell? ⟨gb709, 2, none⟩ = some (.slice A0_2 l0_2.length c0_2)) (ds := []) #[false, false, false, false, false] (by kernel_rfl) rfl rfl ⟨(blk_cell BK743.out 0).trans rfl, (blk_cell BK743.out 1).trans rfl, (blk_cell BK743.out 2).trans rfl, (blk_cell BK709.out 0).trans rfl, (blk_cell BK709.out 1).trans rfl, (blk_cell BK709.out 2).trans rfl⟩ (fun hHeld => ?_)
          generalize wc.drew = w107 at HO_11 HO_14 HO_15 HO_17 HO_736001 HO_736002 HO_744001 HO_744002 HO_762001 HO_762002 BK709 BK735 BK743 BK761 HB hHeld ⊢
          refine take_ (i := 0) (N := some 78) (v := ?_) (a' := ?_) #[true, false, false, false, false] rfl rfl (by kernel_rfl) (fun _ _ _ h => h) (Or.inl ⟨by rfl, ?_⟩) hHeld ?_ ?_
          rotate_left
          ·rintro w' ⟨s0, s1, s2, s3, s4, s5⟩
           go_simp
           with_reducible rfl
          rotate_left
          ·simp only [Act.put, List.setIfInBounds_toArray, List.set_cons_zero, List.set_cons_succ, i64_w, i32_w]
           rfl
          refine take_ (i := 1) (N := some 79) (v := ?_) (a' := ?_) #[true, true, false, false, false] rfl rfl (by kernel_rfl) (fun _ _ _ h => h) (Or.inl ⟨by rfl, ?_⟩) hHeld ?_ ?_
          rotate_left
          ·rintro w' ⟨s0, s1, s2, s3, s4, s5⟩
           go_simp
           with_reducible rfl
          rotate_left
          ·simp only [Act.put, List.setIfInBounds_toArray, List.set_cons_zero, List.set_cons_succ, i64_w, i32_w]
           rfl
          refine one_ (i := 2) (N := some 80) #[true, true, true, false, false] rfl rfl (by kernel_rfl) (by decide) (fun K hK => ?_)
          refine goes_ Try.func13 (by kernel_rfl) rfl #[.agg #[.int .i64 a0_0, .slice A0_1 l0_1.length c0_1, .slice A0_2 l0_2.length c0_2]] (by rfl) rfl rfl qG ?_
          with_reducible refine (laws_toCircuit.calls kj21 a0_0 _ _ l0_1 _ _ l0_2 t764 t765 t768 _ ?side1 ?side2 ?side3 ?side4 A94.out).mono ?_
          (case side1 => exact qC (Kd.C_below HR0_1.out HB.out))
          (case side2 => exact HC0_1.out)
          (case side3 => exact qC (Kd.C_below HR0_2.out HB.out))
          (case side4 => exact HC0_2.out)
          rintro e w108 ⟨v766, v769, rfl, ho0, ho1, hb⟩
          refine ⟨_, rfl, ?_⟩
          have n0_ := Aside0.mk (Kd.R_elder' (qR HO_11.out) (Kd.R_base ho1) hb)
          have n1_ := Aside0.mk (Kd.R_elder' (qR HO_14.out) (Kd.R_base ho1) hb)
          have n2_ := Aside0.mk (Kd.R_elder' (qR HO_15.out) (Kd.R_base ho1) hb)
          have n3_ := Aside0.mk (Kd.R_elder' (qR HO_17.out) (Kd.R_base ho1) hb)
          have n4_ := Aside0.mk (Kd.R_elder' (qR HO_736001.out) (Kd.R_base ho0) hb)
          have n5_ := Aside0.mk (Kd.R_elder' (qR HO_736002.out) (Kd.R_base ho1) hb)
          have n6_ := Aside0.mk (Kd.R_elder' (qR HO_744001.out) (Kd.R_base ho0) hb)
          have n7_ := Aside0.mk (Kd.R_elder' (qR HO_744002.out) (Kd.R_base ho1) hb)
          have n8_ := Aside0.mk (Kd.R_elder' (qR HO_762001.out) (Kd.R_base ho0) hb)
          have n9_ := Aside0.mk (Kd.R_elder' (qR HO_762002.out) (Kd.R_base ho1) hb)
          have n10_ := Aside0.mk (Kd.R_lower (Kd.R_new' (Kd.R_new' (Kd.R_new' ho0 (Kd.R_lt (qR HO_736001.out))) (Kd.R_lt (qR HO_744001.out))) (Kd.R_lt (qR HO_762001.out))) (below_size (qB)))
          have n11_ := Aside0.mk (Kd.R_lower (Kd.R_new' (Kd.R_new' (Kd.R_new' (Kd.R_new' (Kd.R_new' (Kd.R_new' (Kd.R_new' ho1 (Kd.R_lt (qR HO_11.out))) (Kd.R_lt (qR HO_14.out))) (Kd.R_lt (qR HO_15.out))) (Kd.R_lt (qR HO_17.out))) (Kd.R_lt (qR HO_736002.out))) (Kd.R_lt (qR HO_744002.out))) (Kd.R_lt (qR HO_762002.out))) (below_size (qB)))
          have n12_ := Aside0.mk (blk_below (g := gb709) (o := .cells #[.int .i64 a0_0, .slice A0_1 l0_1.length c0_1, .slice A0_2 l0_2.length c0_2] 25 (0, 0)) (qK BK709.out) hb)
          have n13_ := Aside0.mk (blk_below (g := gb735) (o := .cells #[.int .i64 t724, .slice Ao38 t725.length co38, .slice Ao39 t728.length co39] 30 (0, 0)) (qK BK735.out) hb)
          have n14_ := Aside0.mk (blk_below (g := gb743) (o := .cells #[.int .i64 t736, .slice Ao46 t737.length co46, .slice Ao47 t740.length co47] 30 (0, 0)) (qK BK743.out) hb)
          have n15_ := Aside0.mk (blk_below (g := gb761) (o := .cells #[.int .i64 t750, .slice Ao59 t751.length co59, .slice Ao60 t754.length co60] 30 (0, 0)) (qK BK761.out) hb)
          have n16_ := Aside0.mk (below_step (qB) hb)
          clear HO_11
          clear HO_14
          clear HO_15
          clear HO_17
          clear HO_736001
          clear HO_736002
          clear HO_744001
          clear HO_744002
          clear HO_762001
          clear HO_762002
          clear BK709
          clear BK735
          clear BK743
          clear BK761
          clear HB
          have HO_11 := n0_
          have HO_14 := n1_
          have HO_15 := n2_
          have HO_17 := n3_
          have HO_736001 := n4_
          have HO_736002 := n5_
          have HO_744001 := n6_
          have HO_744002 := n7_
          have HO_762001 := n8_
          have HO_762002 := n9_
          have HO767 := n10_
          have HO770 := n11_
          have BK709 := n12_
          have BK735 := n13_
          have BK743 := n14_
          have BK761 := n15_
          have HB := n16_
          clear n0_ n1_ n2_ n3_ n4_ n5_ n6_ n7_ n8_ n9_ n10_ n11_ n12_ n13_ n14_ n15_ n16_
          (try clear hb)
          (try clear hb2)
          (try clear hk)
          (try clear hi)
          (try clear ho0)
          (try clear ho1)
          obtain ⟨Ao109, co109, eo109⟩ := Kd.R_slice HO767.out
          (first | subst eo109 | (injection eo109 with f1_ f2_ f3_; have f4_ := f1_.symm; have f5_ := f3_.symm; clear f1_ f2_ f3_; subst f4_; subst f5_))
          obtain ⟨Ao110, co110, eo110⟩ := Kd.R_slice HO770.out
          (first | subst eo110 | (injection eo110 with f1_ f2_ f3_; have f4_ := f1_.symm; have f5_ := f3_.symm; clear f1_ f2_ f3_; subst f4_; subst f5_))
          refine hK.out _ _ ⟨(blk_cell BK743.out 0).trans rfl, (blk_cell BK743.out 1).trans rfl, (blk_cell BK743.out 2).trans rfl, (blk_cell BK709.out 0).trans rfl, (blk_cell BK709.out 1).trans rfl, (blk_cell BK709.out 2).trans rfl⟩ (fun hHeld => ?_)
          clear hK K
          refine norm_ (a' := ?_) ?_ ?_
          rotate_left
          ·show Act.put _ (some 80) _ = _
           simp only [Act.put, List.setIfInBounds_toArray, List.set_cons_zero, List.set_cons_succ, i64_w, i32_w]
           rfl
          refine one_ (i := 3) (N := some 81) #[true, true, true, true, false] rfl rfl (by kernel_rfl) (by decide) (fun K hK => ?_)
          refine goes_ Try.func15 (by kernel_rfl) rfl #[.agg #[.int .i64 t736, .slice Ao46 t737.length co46, .slice Ao47 t740.length co47], .agg #[.int .i64 t764, .slice Ao109 t765.length co109, .slice Ao110 t768.length co110]] (by rfl) rfl rfl qG ?_
          with_reducible refine (laws_eqCircuit.calls kj21 t736 _ _ t737 _ _ t740 t764 _ _ t765 _ _ t768 true _ ?side1 ?side2 ?side3 ?side4 ?side5 ?side6 ?side7 ?side8 A95.out).mono ?_
          (case side1 => repeat (first | exact (Kd.R_reads' HO_744001.out).2.2 | (with_reducible refine Kd.C_alloc ?_ _) | (with_reducible refine Kd.C_drewN ?_ _) | (with_reducible refine Kd.C_drew ?_)))
          (case side2 => exact (Kd.R_reads' HO_744001.out).2.1)
          (case side3 => repeat (first | exact (Kd.R_reads' HO_744002.out).2.2 | (with_reducible refine Kd.C_alloc ?_ _) | (with_reducible refine Kd.C_drewN ?_ _) | (with_reducible refine Kd.C_drew ?_)))
          (case side4 => exact (Kd.R_reads' HO_744002.out).2.1)
          (case side5 => repeat (first | exact (Kd.R_reads' HO767.out).2.2 | (with_reducible refine Kd.C_alloc ?_ _) | (with_reducible refine Kd.C_drewN ?_ _) | (with_reducible refine Kd.C_drew ?_)))
          (case side6 => exact (Kd.R_reads' HO767.out).2.1)
          (case side7 => repeat (first | exact (Kd.R_reads' HO770.out).2.2 | (with_reducible refine Kd.C_alloc ?_ _) | (with_reducible refine Kd.C_drewN ?_ _) | (with_reducible refine Kd.C_drew ?_)))
          (case side8 => exact (Kd.R_reads' HO770.out).2.1)
          rintro e w111 ⟨rfl, hb⟩
          refine ⟨_, rfl, ?_⟩
          have n0_ := Aside0.mk (Kd.R_below (qR HO_11.out) hb)
          have n1_ := Aside0.mk (Kd.R_below (qR HO_14.out) hb)
          have n2_ := Aside0.mk (Kd.R_below (qR HO_15.out) hb)
          have n3_ := Aside0.mk (Kd.R_below (qR HO_17.out) hb)
          have n4_ := Aside0.mk (Kd.R_below (qR HO_736001.out) hb)
          have n5_ := Aside0.mk (Kd.R_below (qR HO_736002.out) hb)
          have n6_ := Aside0.mk (Kd.R_below (qR HO_744001.out) hb)
          have n7_ := Aside0.mk (Kd.R_below (qR HO_744002.out) hb)
          have n8_ := Aside0.mk (Kd.R_below (qR HO_762001.out) hb)
          have n9_ := Aside0.mk (Kd.R_below (qR HO_762002.out) hb)
          have n10_ := Aside0.mk (Kd.R_below (qR HO767.out) hb)
          have n11_ := Aside0.mk (Kd.R_below (qR HO770.out) hb)
          have n12_ := Aside0.mk (blk_below (g := gb709) (o := .cells #[.int .i64 a0_0, .slice A0_1 l0_1.length c0_1, .slice A0_2 l0_2.length c0_2] 25 (0, 0)) (qK BK709.out) hb)
          have n13_ := Aside0.mk (blk_below (g := gb735) (o := .cells #[.int .i64 t724, .slice Ao38 t725.length co38, .slice Ao39 t728.length co39] 30 (0, 0)) (qK BK735.out) hb)
          have n14_ := Aside0.mk (blk_below (g := gb743) (o := .cells #[.int .i64 t736, .slice Ao46 t737.length co46, .slice Ao47 t740.length co47] 30 (0, 0)) (qK BK743.out) hb)
          have n15_ := Aside0.mk (blk_below (g := gb761) (o := .cells #[.int .i64 t750, .slice Ao59 t751.length co59, .slice Ao60 t754.length co60] 30 (0, 0)) (qK BK761.out) hb)
          have n16_ := Aside0.mk (below_step (qB) hb)
          clear HO_11
          clear HO_14
          clear HO_15
          clear HO_17
          clear HO_736001
          clear HO_736002
          clear HO_744001
          clear HO_744002
          clear HO_762001
          clear HO_762002
          clear HO767
          clear HO770
          clear BK709
          clear BK735
          clear BK743
          clear BK761
          clear HB
          have HO_11 := n0_
          have HO_14 := n1_
          have HO_15 := n2_
          have HO_17 := n3_
          have HO_736001 := n4_
          have HO_736002 := n5_
          have HO_744001 := n6_
          have HO_744002 := n7_
          have HO_762001 := n8_
          have HO_762002 := n9_
          have HO767 := n10_
          have HO770 := n11_
          have BK709 := n12_
          have BK735 := n13_
          have BK743 := n14_
          have BK761 := n15_
          have HB := n16_
          clear n0_ n1_ n2_ n3_ n4_ n5_ n6_ n7_ n8_ n9_ n10_ n11_ n12_ n13_ n14_ n15_ n16_
          (try clear hb)
          (try clear hb2)
          (try clear hk)
          (try clear hi)
          refine hK.out _ _ ⟨(blk_cell BK743.out 0).trans rfl, (blk_cell BK743.out 1).trans rfl, (blk_cell BK743.out 2).trans rfl, (blk_cell BK709.out 0).trans rfl, (blk_cell BK709.out 1).trans rfl, (blk_cell BK709.out 2).trans rfl⟩ (fun hHeld => ?_)
          clear hK K
          refine norm_ (a' := ?_) ?_ ?_
          rotate_left
          ·show Act.put _ (some 81) _ = _
           simp only [Act.put, List.setIfInBounds_toArray, List.set_cons_zero, List.set_cons_succ, i64_w, i32_w]
           rfl
          refine pure_ (i := 4) (N := some 82) (v := ?_) (a' := ?_) #[true, true, true, true, true] rfl rfl (by kernel_rfl) (fun _ _ _ h => h) (Or.inl ⟨by rfl, ?_⟩) ?_ ?_
          rotate_left
          ·intro w'
           go_simp
           with_reducible rfl
          rotate_left
          ·simp only [Act.put, List.setIfInBounds_toArray, List.set_cons_zero, List.set_cons_succ, i64_w, i32_w]
           rfl
          refine done_ (by kernel_rfl) ?_
          go_upto_region 26 with (first | ((with_reducible refine gate_callee (f := 34) rfl ?_); refine goesL_ (some 85) rfl rfl Try.func34 (by kernel_rfl) rfl #[.slice A1 l1.length c1] rfl qG ?_; (with_reducible refine (laws_toIntS.calls kj21 _ _ l1 t772 _ ?side1 ?side2 A97.out).mono ?_); (case side1 => exact qC (Kd.C_below HR1.out HB.out)); (case side2 => exact HC1.out); rintro e w112 ⟨v773, rfl, ho0, hb⟩; refine ⟨_, rfl, ?_⟩; have n0_ := Aside0.mk (Kd.R_elder' (qR HO_11.out) (Kd.R_base ho0) hb); have n1_ := Aside0.mk (Kd.R_elder' (qR HO_14.out) (Kd.R_base ho0) hb); have n2_ := Aside0.mk (Kd.R_elder' (qR HO_15.out) (Kd.R_base ho0) hb); have n3_ := Aside0.mk (Kd.R_elder' (qR HO_17.out) (Kd.R_base ho0) hb); have n4_ := Aside0.mk (Kd.R_below (qR HO_736001.out) hb); have n5_ := Aside0.mk (Kd.R_elder' (qR HO_736002.out) (Kd.R_base ho0) hb); have n6_ := Aside0.mk (Kd.R_below (qR HO_744001.out) hb); have n7_ := Aside0.mk (Kd.R_elder' (qR HO_744002.out) (Kd.R_base ho0) hb); have n8_ := Aside0.mk (Kd.R_below (qR HO_762001.out) hb); have n9_ := Aside0.mk (Kd.R_elder' (qR HO_762002.out) (Kd.R_base ho0) hb); have n10_ := Aside0.mk (Kd.R_below (qR HO767.out) hb); have n11_ := Aside0.mk (Kd.R_elder' (qR HO770.out) (Kd.R_base ho0) hb); have n12_ := Aside0.mk (Kd.R_lower (Kd.R_new' (Kd.R_new' (Kd.R_new' (Kd.R_new' (Kd.R_new' (Kd.R_new' (Kd.R_new' (Kd.R_new' ho0 (Kd.R_lt (qR HO_11.out))) (Kd.R_lt (qR HO_14.out))) (Kd.R_lt (qR HO_15.out))) (Kd.R_lt (qR HO_17.out))) (Kd.R_lt (qR HO_736002.out))) (Kd.R_lt (qR HO_744002.out))) (Kd.R_lt (qR HO_762002.out))) (Kd.R_lt (qR HO770.out))) (below_size (qB))); have n13_ := Aside0.mk (blk_below (g := gb709) (o := .cells #[.int .i64 a0_0, .slice A0_1 l0_1.length c0_1, .slice A0_2 l0_2.length c0_2] 25 (0, 0)) (qK BK709.out) hb); have n14_ := Aside0.mk (blk_below (g := gb735) (o := .cells #[.int .i64 t724, .slice Ao38 t725.length co38, .slice Ao39 t728.length co39] 30 (0, 0)) (qK BK735.out) hb); have n15_ := Aside0.mk (blk_below (g := gb743) (o := .cells #[.int .i64 t736, .slice Ao46 t737.length co46, .slice Ao47 t740.length co47] 30 (0, 0)) (qK BK743.out) hb); have n16_ := Aside0.mk (blk_below (g := gb761) (o := .cells #[.int .i64 t750, .slice Ao59 t751.length co59, .slice Ao60 t754.length co60] 30 (0, 0)) (qK BK761.out) hb); have n17_ := Aside0.mk (below_step (qB) hb); clear HO_11; clear HO_14; clear HO_15; clear HO_17; clear HO_736001; clear HO_736002; clear HO_744001; clear HO_744002; clear HO_762001; clear HO_762002; clear HO767; clear HO770; clear BK709; clear BK735; clear BK743; clear BK761; clear HB; have HO_11 := n0_; have HO_14 := n1_; have HO_15 := n2_; have HO_17 := n3_; have HO_736001 := n4_; have HO_736002 := n5_; have HO_744001 := n6_; have HO_744002 := n7_; have HO_762001 := n8_; have HO_762002 := n9_; have HO767 := n10_; have HO770 := n11_; have HO774 := n12_; have BK709 := n13_; have BK735 := n14_; have BK743 := n15_; have BK761 := n16_; have HB := n17_; clear n0_ n1_ n2_ n3_ n4_ n5_ n6_ n7_ n8_ n9_ n10_ n11_ n12_ n13_ n14_ n15_ n16_ n17_; (try clear hb); (try clear hb2); (try clear hk); (try clear hi); (try clear ho0); obtain ⟨Ao113, co113, eo113⟩ := Kd.R_slice HO774.out; subst eo113) | ((with_reducible refine gate_callee (f := 27) rfl ?_); refine goesL_ (some 86) rfl rfl Try.func27 (by kernel_rfl) rfl #[.slice Ao51 t744.length co51, .slice Ao113 t772.length co113] rfl qG ?_; (with_reducible refine (laws_eqIntS.calls kj21 _ _ t744 _ _ t772 true _ ?side1 ?side2 ?side3 ?side4 A98.out).mono ?_); (case side1 => repeat (first | exact (Kd.R_reads' HO_14.out).2.2 | (with_reducible refine Kd.C_alloc ?_ _) | (with_reducible refine Kd.C_drewN ?_ _) | (with_reducible refine Kd.C_drew ?_))); (case side2 => exact (Kd.R_reads' HO_14.out).2.1); (case side3 => repeat (first | exact (Kd.R_reads' HO774.out).2.2 | (with_reducible refine Kd.C_alloc ?_ _) | (with_reducible refine Kd.C_drewN ?_ _) | (with_reducible refine Kd.C_drew ?_))); (case side4 => exact (Kd.R_reads' HO774.out).2.1); rintro e w' ⟨rfl, ⟨nd, rfl⟩⟩; refine ⟨_, rfl, ?_⟩) | ((with_reducible refine gate_callee (f := 34) rfl ?_); refine goesL_ (some 90) rfl rfl Try.func34 (by kernel_rfl) rfl #[.slice A2 l2.length c2] rfl qG ?_; (with_reducible refine (laws_toIntS.calls kj21 _ _ l2 t776 _ ?side1 ?side2 A100.out).mono ?_); (case side1 => repeat (first | exact (Kd.C_below HR2.out (qB)) | (with_reducible refine Kd.C_alloc ?_ _) | (with_reducible refine Kd.C_drewN ?_ _) | (with_reducible refine Kd.C_drew ?_))); (case side2 => exact HC2.out); rintro e w114 ⟨v777, rfl, ho0, hb⟩; refine ⟨_, rfl, ?_⟩; have n0_ := Aside0.mk (Kd.R_elder' (qR HO_11.out) (Kd.R_base ho0) hb); have n1_ := Aside0.mk (Kd.R_elder' (qR HO_14.out) (Kd.R_base ho0) hb); have n2_ := Aside0.mk (Kd.R_elder' (qR HO_15.out) (Kd.R_base ho0) hb); have n3_ := Aside0.mk (Kd.R_elder' (qR HO_17.out) (Kd.R_base ho0) hb); have n4_ := Aside0.mk (Kd.R_below (qR HO_736001.out) hb); have n5_ := Aside0.mk (Kd.R_elder' (qR HO_736002.out) (Kd.R_base ho0) hb); have n6_ := Aside0.mk (Kd.R_below (qR HO_744001.out) hb); have n7_ := Aside0.mk (Kd.R_elder' (qR HO_744002.out) (Kd.R_base ho0) hb); have n8_ := Aside0.mk (Kd.R_below (qR HO_762001.out) hb); have n9_ := Aside0.mk (Kd.R_elder' (qR HO_762002.out) (Kd.R_base ho0) hb); have n10_ := Aside0.mk (Kd.R_below (qR HO767.out) hb); have n11_ := Aside0.mk (Kd.R_elder' (qR HO770.out) (Kd.R_base ho0) hb); have n12_ := Aside0.mk (Kd.R_elder' (qR HO774.out) (Kd.R_base ho0) hb); have n13_ := Aside0.mk (Kd.R_lower (Kd.R_new' (Kd.R_new' (Kd.R_new' (Kd.R_new' (Kd.R_new' (Kd.R_new' (Kd.R_new' (Kd.R_new' (Kd.R_new' ho0 (Kd.R_lt (qR HO_11.out))) (Kd.R_lt (qR HO_14.out))) (Kd.R_lt (qR HO_15.out))) (Kd.R_lt (qR HO_17.out))) (Kd.R_lt (qR HO_736002.out))) (Kd.R_lt (qR HO_744002.out))) (Kd.R_lt (qR HO_762002.out))) (Kd.R_lt (qR HO770.out))) (Kd.R_lt (qR HO774.out))) (below_size (qB))); have n14_ := Aside0.mk (blk_below (g := gb709) (o := .cells #[.int .i64 a0_0, .slice A0_1 l0_1.length c0_1, .slice A0_2 l0_2.length c0_2] 25 (0, 0)) (qK BK709.out) hb); have n15_ := Aside0.mk (blk_below (g := gb735) (o := .cells #[.int .i64 t724, .slice Ao38 t725.length co38, .slice Ao39 t728.length co39] 30 (0, 0)) (qK BK735.out) hb); have n16_ := Aside0.mk (blk_below (g := gb743) (o := .cells #[.int .i64 t736, .slice Ao46 t737.length co46, .slice Ao47 t740.length co47] 30 (0, 0)) (qK BK743.out) hb); have n17_ := Aside0.mk (blk_below (g := gb761) (o := .cells #[.int .i64 t750, .slice Ao59 t751.length co59, .slice Ao60 t754.length co60] 30 (0, 0)) (qK BK761.out) hb); have n18_ := Aside0.mk (below_step (qB) hb); clear HO_11; clear HO_14; clear HO_15; clear HO_17; clear HO_736001; clear HO_736002; clear HO_744001; clear HO_744002; clear HO_762001; clear HO_762002; clear HO767; clear HO770; clear HO774; clear BK709; clear BK735; clear BK743; clear BK761; clear HB; have HO_11 := n0_; have HO_14 := n1_; have HO_15 := n2_; have HO_17 := n3_; have HO_736001 := n4_; have HO_736002 := n5_; have HO_744001 := n6_; have HO_744002 := n7_; have HO_762001 := n8_; have HO_762002 := n9_; have HO767 := n10_; have HO770 := n11_; have HO774 := n12_; have HO778 := n13_; have BK709 := n14_; have BK735 := n15_; have BK743 := n16_; have BK761 := n17_; have HB := n18_; clear n0_ n1_ n2_ n3_ n4_ n5_ n6_ n7_ n8_ n9_ n10_ n11_ n12_ n13_ n14_ n15_ n16_ n17_ n18_; (try clear hb); (try clear hb2); (try clear hk); (try clear hi); (try clear ho0); obtain ⟨Ao115, co115, eo115⟩ := Kd.R_slice HO778.out; subst eo115) | ((with_reducible refine gate_callee (f := 27) rfl ?_); refine goesL_ (some 91) rfl rfl Try.func27 (by kernel_rfl) rfl #[.slice Ao52 t747.length co52, .slice Ao115 t776.length co115] rfl qG ?_; (with_reducible refine (laws_eqIntS.calls kj21 _ _ t747 _ _ t776 true _ ?side1 ?side2 ?side3 ?side4 A101.out).mono ?_); (case side1 => repeat (first | exact (Kd.R_reads' HO_15.out).2.2 | (with_reducible refine Kd.C_alloc ?_ _) | (with_reducible refine Kd.C_drewN ?_ _) | (with_reducible refine Kd.C_drew ?_))); (case side2 => exact (Kd.R_reads' HO_15.out).2.1); (case side3 => repeat (first | exact (Kd.R_reads' HO778.out).2.2 | (with_reducible refine Kd.C_alloc ?_ _) | (with_reducible refine Kd.C_drewN ?_ _) | (with_reducible refine Kd.C_drew ?_))); (case side4 => exact (Kd.R_reads' HO778.out).2.1); rintro e w' ⟨rfl, ⟨nd, rfl⟩⟩; refine ⟨_, rfl, ?_⟩; have hnb116 := NB743_709.out; have hnc116 := NB709_743.out; have hnb117 := NB743_735.out; have hnc117 := NB735_743.out; have hnb118 := NB743_761.out; have hnc118 := NB761_743.out; have hcz119_0 : w114.cell? ⟨gb743, 0, none⟩ = some (.int .i64 t736) := (blk_cell BK743.out 0).trans rfl; have hcz119_1 : w114.cell? ⟨gb743, 1, none⟩ = some (.slice Ao46 t737.length co46) := (blk_cell BK743.out 1).trans rfl; have hcz119_2 : w114.cell? ⟨gb743, 2, none⟩ = some (.slice Ao47 t740.length co47) := (blk_cell BK743.out 2).trans rfl; have hfz119_0 := blk_frozen BK743.out 0; have hfz119_1 := blk_frozen BK743.out 1; have hfz119_2 := blk_frozen BK743.out 2) | ((with_reducible refine gate_callee (f := 20) rfl ?_); refine goesL_ (some 95) rfl rfl Try.func20 (by kernel_rfl) rfl #[.agg #[.int .i64 t736, .slice Ao46 t737.length co46, .slice Ao47 t740.length co47], .int .i64 1] rfl qG ?_; (with_reducible refine (laws_markCircuit.calls kj21 t736 (fun k_ => some k_ = (.slice Ao46 t737.length co46 : Value).ownBlock) (.slice Ao46 t737.length co46) t737 (fun k_ => some k_ = (.slice Ao47 t740.length co47 : Value).ownBlock) (.slice Ao47 t740.length co47) t740 1 t780 t781 t782 w _ ?side1 ?side2 ?side3 A103.out).mono ?_); (case side1 => exact qB); (case side2 => exact Kd.R_tight rfl HO_744001.out); (case side3 => exact Kd.R_tight rfl HO_744002.out); rintro e w120 ⟨rfl, hy0, hy1, hb, hkp⟩; refine ⟨_, rfl, ?_⟩; have n0_ := Aside0.mk (Kd.R_mono (ok' := fun k_ => some k_ ≠ (.slice Ao51 t744.length co51 : Value).ownBlock ∧ some k_ ≠ (.slice Ao52 t747.length co52 : Value).ownBlock ∧ some k_ ≠ (v758 : Value).ownBlock ∧ some k_ ≠ (.slice Ao39 t728.length co39 : Value).ownBlock ∧ some k_ ≠ (.slice Ao47 t740.length co47 : Value).ownBlock ∧ some k_ ≠ (.slice Ao60 t754.length co60 : Value).ownBlock ∧ some k_ ≠ (.slice Ao110 t768.length co110 : Value).ownBlock ∧ some k_ ≠ (.slice Ao113 t772.length co113 : Value).ownBlock ∧ some k_ ≠ (.slice Ao115 t776.length co115 : Value).ownBlock) (Kd.R_keptB ((Kd.R_apart' HO_11.out (Kd.R_typed HO_744001.out) (by decide))) hkp (fun k_ hk_ hs_ => Or.elim hs_ (fun e_ => (hk_.2) e_) (fun e_ => (hk_.1.1.1.1.2.2.2.2.1) e_))) (fun k_ hk_ => ⟨hk_.1.1.1.1.1.1, hk_.1.1.1.1.1.2.1, hk_.1.1.1.1.1.2.2.1, hk_.1.1.1.1.1.2.2.2.1, hk_.1.1.1.1.1.2.2.2.2.1, hk_.1.1.1.1.1.2.2.2.2.2, hk_.1.1.1.1.2, hk_.1.1.1.2, hk_.1.1.2⟩)); have n1_ := Aside0.mk (Kd.R_mono (ok' := fun k_ => some k_ ≠ (v732 : Value).ownBlock ∧ some k_ ≠ (.slice Ao52 t747.length co52 : Value).ownBlock ∧ some k_ ≠ (v758 : Value).ownBlock ∧ some k_ ≠ (.slice Ao39 t728.length co39 : Value).ownBlock ∧ some k_ ≠ (.slice Ao47 t740.length co47 : Value).ownBlock ∧ some k_ ≠ (.slice Ao60 t754.length co60 : Value).ownBlock ∧ some k_ ≠ (.slice Ao110 t768.length co110 : Value).ownBlock ∧ some k_ ≠ (.slice Ao113 t772.length co113 : Value).ownBlock ∧ some k_ ≠ (.slice Ao115 t776.length co115 : Value).ownBlock) (Kd.R_keptB ((Kd.R_apart' HO_14.out (Kd.R_typed HO_744001.out) (by decide))) hkp (fun k_ hk_ hs_ => Or.elim hs_ (fun e_ => (hk_.2) e_) (fun e_ => (hk_.1.1.1.1.2.2.2.2.1) e_))) (fun k_ hk_ => ⟨hk_.1.1.1.1.1.1, hk_.1.1.1.1.1.2.1, hk_.1.1.1.1.1.2.2.1, hk_.1.1.1.1.1.2.2.2.1, hk_.1.1.1.1.1.2.2.2.2.1, hk_.1.1.1.1.1.2.2.2.2.2, hk_.1.1.1.1.2, hk_.1.1.1.2, hk_.1.1.2⟩)); have n2_ := Aside0.mk (Kd.R_mono (ok' := fun k_ => some k_ ≠ (v732 : Value).ownBlock ∧ some k_ ≠ (.slice Ao51 t744.length co51 : Value).ownBlock ∧ some k_ ≠ (v758 : Value).ownBlock ∧ some k_ ≠ (.slice Ao39 t728.length co39 : Value).ownBlock ∧ some k_ ≠ (.slice Ao47 t740.length co47 : Value).ownBlock ∧ some k_ ≠ (.slice Ao60 t754.length co60 : Value).ownBlock ∧ some k_ ≠ (.slice Ao110 t768.length co110 : Value).ownBlock ∧ some k_ ≠ (.slice Ao113 t772.length co113 : Value).ownBlock ∧ some k_ ≠ (.slice Ao115 t776.length co115 : Value).ownBlock) (Kd.R_keptB ((Kd.R_apart' HO_15.out (Kd.R_typed HO_744001.out) (by decide))) hkp (fun k_ hk_ hs_ => Or.elim hs_ (fun e_ => (hk_.2) e_) (fun e_ => (hk_.1.1.1.1.2.2.2.2.1) e_))) (fun k_ hk_ => ⟨hk_.1.1.1.1.1.1, hk_.1.1.1.1.1.2.1, hk_.1.1.1.1.1.2.2.1, hk_.1.1.1.1.1.2.2.2.1, hk_.1.1.1.1.1.2.2.2.2.1, hk_.1.1.1.1.1.2.2.2.2.2, hk_.1.1.1.1.2, hk_.1.1.1.2, hk_.1.1.2⟩)); have n3_ := Aside0.mk (Kd.R_mono (ok' := fun k_ => some k_ ≠ (v732 : Value).ownBlock ∧ some k_ ≠ (.slice Ao51 t744.length co51 : Value).ownBlock ∧ some k_ ≠ (.slice Ao52 t747.length co52 : Value).ownBlock ∧ some k_ ≠ (.slice Ao39 t728.length co39 : Value).ownBlock ∧ some k_ ≠ (.slice Ao47 t740.length co47 : Value).ownBlock ∧ some k_ ≠ (.slice Ao60 t754.length co60 : Value).ownBlock ∧ some k_ ≠ (.slice Ao110 t768.length co110 : Value).ownBlock ∧ some k_ ≠ (.slice Ao113 t772.length co113 : Value).ownBlock ∧ some k_ ≠ (.slice Ao115 t776.length co115 : Value).ownBlock) (Kd.R_keptB ((Kd.R_apart' HO_17.out (Kd.R_typed HO_744001.out) (by decide))) hkp (fun k_ hk_ hs_ => Or.elim hs_ (fun e_ => (hk_.2) e_) (fun e_ => (hk_.1.1.1.1.2.2.2.2.1) e_))) (fun k_ hk_ => ⟨hk_.1.1.1.1.1.1, hk_.1.1.1.1.1.2.1, hk_.1.1.1.1.1.2.2.1, hk_.1.1.1.1.1.2.2.2.1, hk_.1.1.1.1.1.2.2.2.2.1, hk_.1.1.1.1.1.2.2.2.2.2, hk_.1.1.1.1.2, hk_.1.1.1.2, hk_.1.1.2⟩)); have n4_ := Aside0.mk (Kd.R_mono (ok' := fun k_ => some k_ ≠ (.slice Ao46 t737.length co46 : Value).ownBlock ∧ some k_ ≠ (.slice Ao59 t751.length co59 : Value).ownBlock ∧ some k_ ≠ (.slice Ao109 t765.length co109 : Value).ownBlock) (Kd.R_keptB ((Kd.R_apart' HO_736001.out (Kd.R_typed HO_744002.out) (by decide))) hkp (fun k_ hk_ hs_ => Or.elim hs_ (fun e_ => (hk_.1.1.1) e_) (fun e_ => (hk_.2) e_))) (fun k_ hk_ => ⟨hk_.1.1.1.1, hk_.1.1.1.2, hk_.1.1.2⟩)); have n5_ := Aside0.mk (Kd.R_mono (ok' := fun k_ => some k_ ≠ (v732 : Value).ownBlock ∧ some k_ ≠ (.slice Ao51 t744.length co51 : Value).ownBlock ∧ some k_ ≠ (.slice Ao52 t747.length co52 : Value).ownBlock ∧ some k_ ≠ (v758 : Value).ownBlock ∧ some k_ ≠ (.slice Ao47 t740.length co47 : Value).ownBlock ∧ some k_ ≠ (.slice Ao60 t754.length co60 : Value).ownBlock ∧ some k_ ≠ (.slice Ao110 t768.length co110 : Value).ownBlock ∧ some k_ ≠ (.slice Ao113 t772.length co113 : Value).ownBlock ∧ some k_ ≠ (.slice Ao115 t776.length co115 : Value).ownBlock) (Kd.R_keptB ((Kd.R_apart' HO_736002.out (Kd.R_typed HO_744001.out) (by decide))) hkp (fun k_ hk_ hs_ => Or.elim hs_ (fun e_ => (hk_.2) e_) (fun e_ => (hk_.1.1.1.1.2.2.2.2.1) e_))) (fun k_ hk_ => ⟨hk_.1.1.1.1.1.1, hk_.1.1.1.1.1.2.1, hk_.1.1.1.1.1.2.2.1, hk_.1.1.1.1.1.2.2.2.1, hk_.1.1.1.1.1.2.2.2.2.1, hk_.1.1.1.1.1.2.2.2.2.2, hk_.1.1.1.1.2, hk_.1.1.1.2, hk_.1.1.2⟩)); have n6_ := Aside0.mk (Kd.R_reok rfl hy0 (fun k_ e_ => HO_744001.out.1 k_ e_)); have n7_ := Aside0.mk (Kd.R_reok rfl hy1 (fun k_ e_ => HO_744002.out.1 k_ e_)); have n8_ := Aside0.mk (Kd.R_mono (ok' := fun k_ => some k_ ≠ (.slice Ao38 t725.length co38 : Value).ownBlock ∧ some k_ ≠ (.slice Ao46 t737.length co46 : Value).ownBlock ∧ some k_ ≠ (.slice Ao109 t765.length co109 : Value).ownBlock) (Kd.R_keptB ((Kd.R_apart' HO_762001.out (Kd.R_typed HO_744002.out) (by decide))) hkp (fun k_ hk_ hs_ => Or.elim hs_ (fun e_ => (hk_.1.1.2) e_) (fun e_ => (hk_.2) e_))) (fun k_ hk_ => ⟨hk_.1.1.1.1, hk_.1.1.1.2, hk_.1.1.2⟩)); have n9_ := Aside0.mk (Kd.R_mono (ok' := fun k_ => some k_ ≠ (v732 : Value).ownBlock ∧ some k_ ≠ (.slice Ao51 t744.length co51 : Value).ownBlock ∧ some k_ ≠ (.slice Ao52 t747.length co52 : Value).ownBlock ∧ some k_ ≠ (v758 : Value).ownBlock ∧ some k_ ≠ (.slice Ao39 t728.length co39 : Value).ownBlock ∧ some k_ ≠ (.slice Ao47 t740.length co47 : Value).ownBlock ∧ some k_ ≠ (.slice Ao110 t768.length co110 : Value).ownBlock ∧ some k_ ≠ (.slice Ao113 t772.length co113 : Value).ownBlock ∧ some k_ ≠ (.slice Ao115 t776.length co115 : Value).ownBlock) (Kd.R_keptB ((Kd.R_apart' HO_762002.out (Kd.R_typed HO_744001.out) (by decide))) hkp (fun k_ hk_ hs_ => Or.elim hs_ (fun e_ => (hk_.2) e_) (fun e_ => (hk_.1.1.1.1.2.2.2.2.2) e_))) (fun k_ hk_ => ⟨hk_.1.1.1.1.1.1, hk_.1.1.1.1.1.2.1, hk_.1.1.1.1.1.2.2.1, hk_.1.1.1.1.1.2.2.2.1, hk_.1.1.1.1.1.2.2.2.2.1, hk_.1.1.1.1.1.2.2.2.2.2, hk_.1.1.1.1.2, hk_.1.1.1.2, hk_.1.1.2⟩)); have n10_ := Aside0.mk (blk_kept BK709.out hkp (fun hs_ => Or.elim hs_ (fun e_ => (fun e_ => (Kd.R_ne HO_744001.out BK709.out (by decide)) e_) e_) (fun e_ => (fun e_ => (Kd.R_ne HO_744002.out BK709.out (by decide)) e_) e_))); have n11_ := Aside0.mk (blk_kept BK735.out hkp (fun hs_ => Or.elim hs_ (fun e_ => (fun e_ => (Kd.R_ne HO_744001.out BK735.out (by decide)) e_) e_) (fun e_ => (fun e_ => (Kd.R_ne HO_744002.out BK735.out (by decide)) e_) e_))); have n12_ := Aside0.mk (blk_kept BK743.out hkp (fun hs_ => Or.elim hs_ (fun e_ => (fun e_ => (Kd.R_ne HO_744001.out BK743.out (by decide)) e_) e_) (fun e_ => (fun e_ => (Kd.R_ne HO_744002.out BK743.out (by decide)) e_) e_))); have n13_ := Aside0.mk (blk_kept BK761.out hkp (fun hs_ => Or.elim hs_ (fun e_ => (fun e_ => (Kd.R_ne HO_744001.out BK761.out (by decide)) e_) e_) (fun e_ => (fun e_ => (Kd.R_ne HO_744002.out BK761.out (by decide)) e_) e_))); have n14_ := Aside0.mk (Kd.R_mono (ok' := fun k_ => some k_ ≠ (.slice Ao38 t725.length co38 : Value).ownBlock ∧ some k_ ≠ (.slice Ao46 t737.length co46 : Value).ownBlock ∧ some k_ ≠ (.slice Ao59 t751.length co59 : Value).ownBlock) (Kd.R_keptB ((Kd.R_apart' HO767.out (Kd.R_typed HO_744002.out) (by decide))) hkp (fun k_ hk_ hs_ => Or.elim hs_ (fun e_ => (hk_.1.1.2) e_) (fun e_ => (hk_.2) e_))) (fun k_ hk_ => ⟨hk_.1.1.1.1.2, hk_.1.1.1.2, hk_.1.1.2⟩)); have n15_ := Aside0.mk (Kd.R_mono (ok' := fun k_ => some k_ ≠ (v732 : Value).ownBlock ∧ some k_ ≠ (.slice Ao51 t744.length co51 : Value).ownBlock ∧ some k_ ≠ (.slice Ao52 t747.length co52 : Value).ownBlock ∧ some k_ ≠ (v758 : Value).ownBlock ∧ some k_ ≠ (.slice Ao39 t728.length co39 : Value).ownBlock ∧ some k_ ≠ (.slice Ao47 t740.length co47 : Value).ownBlock ∧ some k_ ≠ (.slice Ao60 t754.length co60 : Value).ownBlock ∧ some k_ ≠ (.slice Ao113 t772.length co113 : Value).ownBlock ∧ some k_ ≠ (.slice Ao115 t776.length co115 : Value).ownBlock) (Kd.R_keptB ((Kd.R_apart' HO770.out (Kd.R_typed HO_744001.out) (by decide))) hkp (fun k_ hk_ hs_ => Or.elim hs_ (fun e_ => (hk_.2) e_) (fun e_ => (hk_.1.1.1.1.2) e_))) (fun k_ hk_ => ⟨hk_.1.1.1.1.1.1.1.1.1.1.2, hk_.1.1.1.1.1.1.1.1.1.2, hk_.1.1.1.1.1.1.1.1.2, hk_.1.1.1.1.1.1.1.2, hk_.1.1.1.1.1.1.2, hk_.1.1.1.1.1.2, hk_.1.1.1.1.2, hk_.1.1.1.2, hk_.1.1.2⟩)); have n16_ := Aside0.mk (Kd.R_mono (ok' := fun k_ => some k_ ≠ (v732 : Value).ownBlock ∧ some k_ ≠ (.slice Ao51 t744.length co51 : Value).ownBlock ∧ some k_ ≠ (.slice Ao52 t747.length co52 : Value).ownBlock ∧ some k_ ≠ (v758 : Value).ownBlock ∧ some k_ ≠ (.slice Ao39 t728.length co39 : Value).ownBlock ∧ some k_ ≠ (.slice Ao47 t740.length co47 : Value).ownBlock ∧ some k_ ≠ (.slice Ao60 t754.length co60 : Value).ownBlock ∧ some k_ ≠ (.slice Ao110 t768.length co110 : Value).ownBlock ∧ some k_ ≠ (.slice Ao115 t776.length co115 : Value).ownBlock) (Kd.R_keptB ((Kd.R_apart' HO774.out (Kd.R_typed HO_744001.out) (by decide))) hkp (fun k_ hk_ hs_ => Or.elim hs_ (fun e_ => (hk_.2) e_) (fun e_ => (hk_.1.1.1.1.2) e_))) (fun k_ hk_ => ⟨hk_.1.1.1.1.1.1.1.1.1.1.2, hk_.1.1.1.1.1.1.1.1.1.2, hk_.1.1.1.1.1.1.1.1.2, hk_.1.1.1.1.1.1.1.2, hk_.1.1.1.1.1.1.2, hk_.1.1.1.1.1.2, hk_.1.1.1.1.2, hk_.1.1.1.2, hk_.1.1.2⟩)); have n17_ := Aside0.mk (Kd.R_mono (ok' := fun k_ => some k_ ≠ (v732 : Value).ownBlock ∧ some k_ ≠ (.slice Ao51 t744.length co51 : Value).ownBlock ∧ some k_ ≠ (.slice Ao52 t747.length co52 : Value).ownBlock ∧ some k_ ≠ (v758 : Value).ownBlock ∧ some k_ ≠ (.slice Ao39 t728.length co39 : Value).ownBlock ∧ some k_ ≠ (.slice Ao47 t740.length co47 : Value).ownBlock ∧ some k_ ≠ (.slice Ao60 t754.length co60 : Value).ownBlock ∧ some k_ ≠ (.slice Ao110 t768.length co110 : Value).ownBlock ∧ some k_ ≠ (.slice Ao113 t772.length co113 : Value).ownBlock) (Kd.R_keptB ((Kd.R_apart' HO778.out (Kd.R_typed HO_744001.out) (by decide))) hkp (fun k_ hk_ hs_ => Or.elim hs_ (fun e_ => (hk_.2) e_) (fun e_ => (hk_.1.1.1.1.2) e_))) (fun k_ hk_ => ⟨hk_.1.1.1.1.1.1.1.1.1.1.2, hk_.1.1.1.1.1.1.1.1.1.2, hk_.1.1.1.1.1.1.1.1.2, hk_.1.1.1.1.1.1.1.2, hk_.1.1.1.1.1.1.2, hk_.1.1.1.1.1.2, hk_.1.1.1.1.2, hk_.1.1.1.2, hk_.1.1.2⟩)); have n18_ := Aside0.mk (hb); clear HO_11; clear HO_14; clear HO_15; clear HO_17; clear HO_736001; clear HO_736002; clear HO_744001; clear HO_744002; clear HO_762001; clear HO_762002; clear BK709; clear BK735; clear BK743; clear BK761; clear HO767; clear HO770; clear HO774; clear HO778; clear HB; have HO_11 := n0_; have HO_14 := n1_; have HO_15 := n2_; have HO_17 := n3_; have HO_736001 := n4_; have HO_736002 := n5_; have HO_744001 := n6_; have HO_744002 := n7_; have HO_762001 := n8_; have HO_762002 := n9_; have BK709 := n10_; have BK735 := n11_; have BK743 := n12_; have BK761 := n13_; have HO767 := n14_; have HO770 := n15_; have HO774 := n16_; have HO778 := n17_; have HB := n18_; clear n0_ n1_ n2_ n3_ n4_ n5_ n6_ n7_ n8_ n9_ n10_ n11_ n12_ n13_ n14_ n15_ n16_ n17_ n18_; (try clear hb); (try clear hkp); (try clear hy0); (try clear hy1)) | ((with_reducible refine gate_callee (f := 28) rfl ?_); refine goesL_ (some 98) rfl rfl Try.func28 (by kernel_rfl) rfl #[.slice Ao51 t744.length co51, .int .i64 t780] rfl qG ?_; (with_reducible refine (laws_markIntS.calls kj21 (fun k_ => some k_ = (.slice Ao51 t744.length co51 : Value).ownBlock) (.slice Ao51 t744.length co51) t744 t780 t783 t784 w _ ?side1 ?side2 A104.out).mono ?_); (case side1 => exact qB); (case side2 => exact Kd.R_tight rfl HO_14.out); rintro e w121 ⟨rfl, hy0, hb, hkp⟩; refine ⟨_, rfl, ?_⟩; have n0_ := Aside0.mk (Kd.R_mono (ok' := fun k_ => some k_ ≠ (.slice Ao51 t744.length co51 : Value).ownBlock ∧ some k_ ≠ (.slice Ao52 t747.length co52 : Value).ownBlock ∧ some k_ ≠ (v758 : Value).ownBlock ∧ some k_ ≠ (.slice Ao39 t728.length co39 : Value).ownBlock ∧ some k_ ≠ (.slice Ao47 t740.length co47 : Value).ownBlock ∧ some k_ ≠ (.slice Ao60 t754.length co60 : Value).ownBlock ∧ some k_ ≠ (.slice Ao110 t768.length co110 : Value).ownBlock ∧ some k_ ≠ (.slice Ao113 t772.length co113 : Value).ownBlock ∧ some k_ ≠ (.slice Ao115 t776.length co115 : Value).ownBlock) (Kd.R_keptB (HO_11.out) hkp (fun k_ hk_ hs_ => (hk_.1) hs_)) (fun k_ hk_ => ⟨hk_.1.1, hk_.1.2.1, hk_.1.2.2.1, hk_.1.2.2.2.1, hk_.1.2.2.2.2.1, hk_.1.2.2.2.2.2.1, hk_.1.2.2.2.2.2.2.1, hk_.1.2.2.2.2.2.2.2.1, hk_.1.2.2.2.2.2.2.2.2⟩)); have n1_ := Aside0.mk (Kd.R_reok rfl hy0 (fun k_ e_ => HO_14.out.1 k_ e_)); have n2_ := Aside0.mk (Kd.R_mono (ok' := fun k_ => some k_ ≠ (v732 : Value).ownBlock ∧ some k_ ≠ (.slice Ao51 t744.length co51 : Value).ownBlock ∧ some k_ ≠ (v758 : Value).ownBlock ∧ some k_ ≠ (.slice Ao39 t728.length co39 : Value).ownBlock ∧ some k_ ≠ (.slice Ao47 t740.length co47 : Value).ownBlock ∧ some k_ ≠ (.slice Ao60 t754.length co60 : Value).ownBlock ∧ some k_ ≠ (.slice Ao110 t768.length co110 : Value).ownBlock ∧ some k_ ≠ (.slice Ao113 t772.length co113 : Value).ownBlock ∧ some k_ ≠ (.slice Ao115 t776.length co115 : Value).ownBlock) (Kd.R_keptB (HO_15.out) hkp (fun k_ hk_ hs_ => (hk_.2.1) hs_)) (fun k_ hk_ => ⟨hk_.1.1, hk_.1.2.1, hk_.1.2.2.1, hk_.1.2.2.2.1, hk_.1.2.2.2.2.1, hk_.1.2.2.2.2.2.1, hk_.1.2.2.2.2.2.2.1, hk_.1.2.2.2.2.2.2.2.1, hk_.1.2.2.2.2.2.2.2.2⟩)); have n3_ := Aside0.mk (Kd.R_mono (ok' := fun k_ => some k_ ≠ (v732 : Value).ownBlock ∧ some k_ ≠ (.slice Ao51 t744.length co51 : Value).ownBlock ∧ some k_ ≠ (.slice Ao52 t747.length co52 : Value).ownBlock ∧ some k_ ≠ (.slice Ao39 t728.length co39 : Value).ownBlock ∧ some k_ ≠ (.slice Ao47 t740.length co47 : Value).ownBlock ∧ some k_ ≠ (.slice Ao60 t754.length co60 : Value).ownBlock ∧ some k_ ≠ (.slice Ao110 t768.length co110 : Value).ownBlock ∧ some k_ ≠ (.slice Ao113 t772.length co113 : Value).ownBlock ∧ some k_ ≠ (.slice Ao115 t776.length co115 : Value).ownBlock) (Kd.R_keptB (HO_17.out) hkp (fun k_ hk_ hs_ => (hk_.2.1) hs_)) (fun k_ hk_ => ⟨hk_.1.1, hk_.1.2.1, hk_.1.2.2.1, hk_.1.2.2.2.1, hk_.1.2.2.2.2.1, hk_.1.2.2.2.2.2.1, hk_.1.2.2.2.2.2.2.1, hk_.1.2.2.2.2.2.2.2.1, hk_.1.2.2.2.2.2.2.2.2⟩)); have n4_ := Aside0.mk (Kd.R_mono (ok' := fun k_ => some k_ ≠ (.slice Ao46 t737.length co46 : Value).ownBlock ∧ some k_ ≠ (.slice Ao59 t751.length co59 : Value).ownBlock ∧ some k_ ≠ (.slice Ao109 t765.length co109 : Value).ownBlock) (Kd.R_keptB ((Kd.R_apart' HO_736001.out (Kd.R_typed HO_14.out) (by decide))) hkp (fun k_ hk_ hs_ => (hk_.2) hs_)) (fun k_ hk_ => ⟨hk_.1.1.1, hk_.1.1.2.1, hk_.1.1.2.2⟩)); have n5_ := Aside0.mk (Kd.R_mono (ok' := fun k_ => some k_ ≠ (v732 : Value).ownBlock ∧ some k_ ≠ (.slice Ao51 t744.length co51 : Value).ownBlock ∧ some k_ ≠ (.slice Ao52 t747.length co52 : Value).ownBlock ∧ some k_ ≠ (v758 : Value).ownBlock ∧ some k_ ≠ (.slice Ao47 t740.length co47 : Value).ownBlock ∧ some k_ ≠ (.slice Ao60 t754.length co60 : Value).ownBlock ∧ some k_ ≠ (.slice Ao110 t768.length co110 : Value).ownBlock ∧ some k_ ≠ (.slice Ao113 t772.length co113 : Value).ownBlock ∧ some k_ ≠ (.slice Ao115 t776.length co115 : Value).ownBlock) (Kd.R_keptB (HO_736002.out) hkp (fun k_ hk_ hs_ => (hk_.2.1) hs_)) (fun k_ hk_ => ⟨hk_.1.1, hk_.1.2.1, hk_.1.2.2.1, hk_.1.2.2.2.1, hk_.1.2.2.2.2.1, hk_.1.2.2.2.2.2.1, hk_.1.2.2.2.2.2.2.1, hk_.1.2.2.2.2.2.2.2.1, hk_.1.2.2.2.2.2.2.2.2⟩)); have n6_ := Aside0.mk (Kd.R_mono (ok' := fun k_ => some k_ ≠ (.slice Ao38 t725.length co38 : Value).ownBlock ∧ some k_ ≠ (.slice Ao59 t751.length co59 : Value).ownBlock ∧ some k_ ≠ (.slice Ao109 t765.length co109 : Value).ownBlock) (Kd.R_keptB ((Kd.R_apart' HO_744001.out (Kd.R_typed HO_14.out) (by decide))) hkp (fun k_ hk_ hs_ => (hk_.2) hs_)) (fun k_ hk_ => ⟨hk_.1.1.1.1, hk_.1.1.1.2, hk_.1.1.2⟩)); have n7_ := Aside0.mk (Kd.R_mono (ok' := fun k_ => some k_ ≠ (v732 : Value).ownBlock ∧ some k_ ≠ (.slice Ao51 t744.length co51 : Value).ownBlock ∧ some k_ ≠ (.slice Ao52 t747.length co52 : Value).ownBlock ∧ some k_ ≠ (v758 : Value).ownBlock ∧ some k_ ≠ (.slice Ao39 t728.length co39 : Value).ownBlock ∧ some k_ ≠ (.slice Ao60 t754.length co60 : Value).ownBlock ∧ some k_ ≠ (.slice Ao110 t768.length co110 : Value).ownBlock ∧ some k_ ≠ (.slice Ao113 t772.length co113 : Value).ownBlock ∧ some k_ ≠ (.slice Ao115 t776.length co115 : Value).ownBlock) (Kd.R_keptB (HO_744002.out) hkp (fun k_ hk_ hs_ => (hk_.1.1.1.2.1) hs_)) (fun k_ hk_ => ⟨hk_.1.1.1.1.1, hk_.1.1.1.1.2.1, hk_.1.1.1.1.2.2.1, hk_.1.1.1.1.2.2.2.1, hk_.1.1.1.1.2.2.2.2.1, hk_.1.1.1.1.2.2.2.2.2, hk_.1.1.1.2, hk_.1.1.2, hk_.1.2⟩)); have n8_ := Aside0.mk (Kd.R_mono (ok' := fun k_ => some k_ ≠ (.slice Ao38 t725.length co38 : Value).ownBlock ∧ some k_ ≠ (.slice Ao46 t737.length co46 : Value).ownBlock ∧ some k_ ≠ (.slice Ao109 t765.length co109 : Value).ownBlock) (Kd.R_keptB ((Kd.R_apart' HO_762001.out (Kd.R_typed HO_14.out) (by decide))) hkp (fun k_ hk_ hs_ => (hk_.2) hs_)) (fun k_ hk_ => ⟨hk_.1.1.1, hk_.1.1.2.1, hk_.1.1.2.2⟩)); have n9_ := Aside0.mk (Kd.R_mono (ok' := fun k_ => some k_ ≠ (v732 : Value).ownBlock ∧ some k_ ≠ (.slice Ao51 t744.length co51 : Value).ownBlock ∧ some k_ ≠ (.slice Ao52 t747.length co52 : Value).ownBlock ∧ some k_ ≠ (v758 : Value).ownBlock ∧ some k_ ≠ (.slice Ao39 t728.length co39 : Value).ownBlock ∧ some k_ ≠ (.slice Ao47 t740.length co47 : Value).ownBlock ∧ some k_ ≠ (.slice Ao110 t768.length co110 : Value).ownBlock ∧ some k_ ≠ (.slice Ao113 t772.length co113 : Value).ownBlock ∧ some k_ ≠ (.slice Ao115 t776.length co115 : Value).ownBlock) (Kd.R_keptB (HO_762002.out) hkp (fun k_ hk_ hs_ => (hk_.2.1) hs_)) (fun k_ hk_ => ⟨hk_.1.1, hk_.1.2.1, hk_.1.2.2.1, hk_.1.2.2.2.1, hk_.1.2.2.2.2.1, hk_.1.2.2.2.2.2.1, hk_.1.2.2.2.2.2.2.1, hk_.1.2.2.2.2.2.2.2.1, hk_.1.2.2.2.2.2.2.2.2⟩)); have n10_ := Aside0.mk (blk_kept BK709.out hkp (fun hs_ => (fun e_ => (Kd.R_ne HO_14.out BK709.out (by decide)) e_) hs_)); have n11_ := Aside0.mk (blk_kept BK735.out hkp (fun hs_ => (fun e_ => (Kd.R_ne HO_14.out BK735.out (by decide)) e_) hs_)); have n12_ := Aside0.mk (blk_kept BK743.out hkp (fun hs_ => (fun e_ => (Kd.R_ne HO_14.out BK743.out (by decide)) e_) hs_)); have n13_ := Aside0.mk (blk_kept BK761.out hkp (fun hs_ => (fun e_ => (Kd.R_ne HO_14.out BK761.out (by decide)) e_) hs_)); have n14_ := Aside0.mk (Kd.R_mono (ok' := fun k_ => some k_ ≠ (.slice Ao38 t725.length co38 : Value).ownBlock ∧ some k_ ≠ (.slice Ao46 t737.length co46 : Value).ownBlock ∧ some k_ ≠ (.slice Ao59 t751.length co59 : Value).ownBlock) (Kd.R_keptB ((Kd.R_apart' HO767.out (Kd.R_typed HO_14.out) (by decide))) hkp (fun k_ hk_ hs_ => (hk_.2) hs_)) (fun k_ hk_ => ⟨hk_.1.1.1, hk_.1.1.2.1, hk_.1.1.2.2⟩)); have n15_ := Aside0.mk (Kd.R_mono (ok' := fun k_ => some k_ ≠ (v732 : Value).ownBlock ∧ some k_ ≠ (.slice Ao51 t744.length co51 : Value).ownBlock ∧ some k_ ≠ (.slice Ao52 t747.length co52 : Value).ownBlock ∧ some k_ ≠ (v758 : Value).ownBlock ∧ some k_ ≠ (.slice Ao39 t728.length co39 : Value).ownBlock ∧ some k_ ≠ (.slice Ao47 t740.length co47 : Value).ownBlock ∧ some k_ ≠ (.slice Ao60 t754.length co60 : Value).ownBlock ∧ some k_ ≠ (.slice Ao113 t772.length co113 : Value).ownBlock ∧ some k_ ≠ (.slice Ao115 t776.length co115 : Value).ownBlock) (Kd.R_keptB (HO770.out) hkp (fun k_ hk_ hs_ => (hk_.2.1) hs_)) (fun k_ hk_ => ⟨hk_.1.1, hk_.1.2.1, hk_.1.2.2.1, hk_.1.2.2.2.1, hk_.1.2.2.2.2.1, hk_.1.2.2.2.2.2.1, hk_.1.2.2.2.2.2.2.1, hk_.1.2.2.2.2.2.2.2.1, hk_.1.2.2.2.2.2.2.2.2⟩)); have n16_ := Aside0.mk (Kd.R_mono (ok' := fun k_ => some k_ ≠ (v732 : Value).ownBlock ∧ some k_ ≠ (.slice Ao51 t744.length co51 : Value).ownBlock ∧ some k_ ≠ (.slice Ao52 t747.length co52 : Value).ownBlock ∧ some k_ ≠ (v758 : Value).ownBlock ∧ some k_ ≠ (.slice Ao39 t728.length co39 : Value).ownBlock ∧ some k_ ≠ (.slice Ao47 t740.length co47 : Value).ownBlock ∧ some k_ ≠ (.slice Ao60 t754.length co60 : Value).ownBlock ∧ some k_ ≠ (.slice Ao110 t768.length co110 : Value).ownBlock ∧ some k_ ≠ (.slice Ao115 t776.length co115 : Value).ownBlock) (Kd.R_keptB (HO774.out) hkp (fun k_ hk_ hs_ => (hk_.2.1) hs_)) (fun k_ hk_ => ⟨hk_.1.1, hk_.1.2.1, hk_.1.2.2.1, hk_.1.2.2.2.1, hk_.1.2.2.2.2.1, hk_.1.2.2.2.2.2.1, hk_.1.2.2.2.2.2.2.1, hk_.1.2.2.2.2.2.2.2.1, hk_.1.2.2.2.2.2.2.2.2⟩)); have n17_ := Aside0.mk (Kd.R_mono (ok' := fun k_ => some k_ ≠ (v732 : Value).ownBlock ∧ some k_ ≠ (.slice Ao51 t744.length co51 : Value).ownBlock ∧ some k_ ≠ (.slice Ao52 t747.length co52 : Value).ownBlock ∧ some k_ ≠ (v758 : Value).ownBlock ∧ some k_ ≠ (.slice Ao39 t728.length co39 : Value).ownBlock ∧ some k_ ≠ (.slice Ao47 t740.length co47 : Value).ownBlock ∧ some k_ ≠ (.slice Ao60 t754.length co60 : Value).ownBlock ∧ some k_ ≠ (.slice Ao110 t768.length co110 : Value).ownBlock ∧ some k_ ≠ (.slice Ao113 t772.length co113 : Value).ownBlock) (Kd.R_keptB (HO778.out) hkp (fun k_ hk_ hs_ => (hk_.2.1) hs_)) (fun k_ hk_ => ⟨hk_.1.1, hk_.1.2.1, hk_.1.2.2.1, hk_.1.2.2.2.1, hk_.1.2.2.2.2.1, hk_.1.2.2.2.2.2.1, hk_.1.2.2.2.2.2.2.1, hk_.1.2.2.2.2.2.2.2.1, hk_.1.2.2.2.2.2.2.2.2⟩)); have n18_ := Aside0.mk (hb); clear HO_11; clear HO_14; clear HO_15; clear HO_17; clear HO_736001; clear HO_736002; clear HO_744001; clear HO_744002; clear HO_762001; clear HO_762002; clear BK709; clear BK735; clear BK743; clear BK761; clear HO767; clear HO770; clear HO774; clear HO778; clear HB; have HO_11 := n0_; have HO_14 := n1_; have HO_15 := n2_; have HO_17 := n3_; have HO_736001 := n4_; have HO_736002 := n5_; have HO_744001 := n6_; have HO_744002 := n7_; have HO_762001 := n8_; have HO_762002 := n9_; have BK709 := n10_; have BK735 := n11_; have BK743 := n12_; have BK761 := n13_; have HO767 := n14_; have HO770 := n15_; have HO774 := n16_; have HO778 := n17_; have HB := n18_; clear n0_ n1_ n2_ n3_ n4_ n5_ n6_ n7_ n8_ n9_ n10_ n11_ n12_ n13_ n14_ n15_ n16_ n17_ n18_; (try clear hb); (try clear hkp); (try clear hy0)) | ((with_reducible refine gate_callee (f := 28) rfl ?_); refine goesL_ (some 101) rfl rfl Try.func28 (by kernel_rfl) rfl #[.slice Ao52 t747.length co52, .int .i64 t783] rfl qG ?_; (with_reducible refine (laws_markIntS.calls kj21 (fun k_ => some k_ = (.slice Ao52 t747.length co52 : Value).ownBlock) (.slice Ao52 t747.length co52) t747 t783 t785 t786 w _ ?side1 ?side2 A105.out).mono ?_); (case side1 => exact qB); (case side2 => exact Kd.R_tight rfl HO_15.out); rintro e w122 ⟨rfl, hy0, hb, hkp⟩; refine ⟨_, rfl, ?_⟩; have n0_ := Aside0.mk (Kd.R_mono (ok' := fun k_ => some k_ ≠ (.slice Ao51 t744.length co51 : Value).ownBlock ∧ some k_ ≠ (.slice Ao52 t747.length co52 : Value).ownBlock ∧ some k_ ≠ (v758 : Value).ownBlock ∧ some k_ ≠ (.slice Ao39 t728.length co39 : Value).ownBlock ∧ some k_ ≠ (.slice Ao47 t740.length co47 : Value).ownBlock ∧ some k_ ≠ (.slice Ao60 t754.length co60 : Value).ownBlock ∧ some k_ ≠ (.slice Ao110 t768.length co110 : Value).ownBlock ∧ some k_ ≠ (.slice Ao113 t772.length co113 : Value).ownBlock ∧ some k_ ≠ (.slice Ao115 t776.length co115 : Value).ownBlock) (Kd.R_keptB (HO_11.out) hkp (fun k_ hk_ hs_ => (hk_.2.1) hs_)) (fun k_ hk_ => ⟨hk_.1.1, hk_.1.2.1, hk_.1.2.2.1, hk_.1.2.2.2.1, hk_.1.2.2.2.2.1, hk_.1.2.2.2.2.2.1, hk_.1.2.2.2.2.2.2.1, hk_.1.2.2.2.2.2.2.2.1, hk_.1.2.2.2.2.2.2.2.2⟩)); have n1_ := Aside0.mk (Kd.R_mono (ok' := fun k_ => some k_ ≠ (v732 : Value).ownBlock ∧ some k_ ≠ (.slice Ao52 t747.length co52 : Value).ownBlock ∧ some k_ ≠ (v758 : Value).ownBlock ∧ some k_ ≠ (.slice Ao39 t728.length co39 : Value).ownBlock ∧ some k_ ≠ (.slice Ao47 t740.length co47 : Value).ownBlock ∧ some k_ ≠ (.slice Ao60 t754.length co60 : Value).ownBlock ∧ some k_ ≠ (.slice Ao110 t768.length co110 : Value).ownBlock ∧ some k_ ≠ (.slice Ao113 t772.length co113 : Value).ownBlock ∧ some k_ ≠ (.slice Ao115 t776.length co115 : Value).ownBlock) (Kd.R_keptB (HO_14.out) hkp (fun k_ hk_ hs_ => (hk_.2.1) hs_)) (fun k_ hk_ => ⟨hk_.1.1, hk_.1.2.1, hk_.1.2.2.1, hk_.1.2.2.2.1, hk_.1.2.2.2.2.1, hk_.1.2.2.2.2.2.1, hk_.1.2.2.2.2.2.2.1, hk_.1.2.2.2.2.2.2.2.1, hk_.1.2.2.2.2.2.2.2.2⟩)); have n2_ := Aside0.mk (Kd.R_reok rfl hy0 (fun k_ e_ => HO_15.out.1 k_ e_)); have n3_ := Aside0.mk (Kd.R_mono (ok' := fun k_ => some k_ ≠ (v732 : Value).ownBlock ∧ some k_ ≠ (.slice Ao51 t744.length co51 : Value).ownBlock ∧ some k_ ≠ (.slice Ao52 t747.length co52 : Value).ownBlock ∧ some k_ ≠ (.slice Ao39 t728.length co39 : Value).ownBlock ∧ some k_ ≠ (.slice Ao47 t740.length co47 : Value).ownBlock ∧ some k_ ≠ (.slice Ao60 t754.length co60 : Value).ownBlock ∧ some k_ ≠ (.slice Ao110 t768.length co110 : Value).ownBlock ∧ some k_ ≠ (.slice Ao113 t772.length co113 : Value).ownBlock ∧ some k_ ≠ (.slice Ao115 t776.length co115 : Value).ownBlock) (Kd.R_keptB (HO_17.out) hkp (fun k_ hk_ hs_ => (hk_.2.2.1) hs_)) (fun k_ hk_ => ⟨hk_.1.1, hk_.1.2.1, hk_.1.2.2.1, hk_.1.2.2.2.1, hk_.1.2.2.2.2.1, hk_.1.2.2.2.2.2.1, hk_.1.2.2.2.2.2.2.1, hk_.1.2.2.2.2.2.2.2.1, hk_.1.2.2.2.2.2.2.2.2⟩)); have n4_ := Aside0.mk (Kd.R_mono (ok' := fun k_ => some k_ ≠ (.slice Ao46 t737.length co46 : Value).ownBlock ∧ some k_ ≠ (.slice Ao59 t751.length co59 : Value).ownBlock ∧ some k_ ≠ (.slice Ao109 t765.length co109 : Value).ownBlock) (Kd.R_keptB ((Kd.R_apart' HO_736001.out (Kd.R_typed HO_15.out) (by decide))) hkp (fun k_ hk_ hs_ => (hk_.2) hs_)) (fun k_ hk_ => ⟨hk_.1.1.1, hk_.1.1.2.1, hk_.1.1.2.2⟩)); have n5_ := Aside0.mk (Kd.R_mono (ok' := fun k_ => some k_ ≠ (v732 : Value).ownBlock ∧ some k_ ≠ (.slice Ao51 t744.length co51 : Value).ownBlock ∧ some k_ ≠ (.slice Ao52 t747.length co52 : Value).ownBlock ∧ some k_ ≠ (v758 : Value).ownBlock ∧ some k_ ≠ (.slice Ao47 t740.length co47 : Value).ownBlock ∧ some k_ ≠ (.slice Ao60 t754.length co60 : Value).ownBlock ∧ some k_ ≠ (.slice Ao110 t768.length co110 : Value).ownBlock ∧ some k_ ≠ (.slice Ao113 t772.length co113 : Value).ownBlock ∧ some k_ ≠ (.slice Ao115 t776.length co115 : Value).ownBlock) (Kd.R_keptB (HO_736002.out) hkp (fun k_ hk_ hs_ => (hk_.2.2.1) hs_)) (fun k_ hk_ => ⟨hk_.1.1, hk_.1.2.1, hk_.1.2.2.1, hk_.1.2.2.2.1, hk_.1.2.2.2.2.1, hk_.1.2.2.2.2.2.1, hk_.1.2.2.2.2.2.2.1, hk_.1.2.2.2.2.2.2.2.1, hk_.1.2.2.2.2.2.2.2.2⟩)); have n6_ := Aside0.mk (Kd.R_mono (ok' := fun k_ => some k_ ≠ (.slice Ao38 t725.length co38 : Value).ownBlock ∧ some k_ ≠ (.slice Ao59 t751.length co59 : Value).ownBlock ∧ some k_ ≠ (.slice Ao109 t765.length co109 : Value).ownBlock) (Kd.R_keptB ((Kd.R_apart' HO_744001.out (Kd.R_typed HO_15.out) (by decide))) hkp (fun k_ hk_ hs_ => (hk_.2) hs_)) (fun k_ hk_ => ⟨hk_.1.1.1, hk_.1.1.2.1, hk_.1.1.2.2⟩)); have n7_ := Aside0.mk (Kd.R_mono (ok' := fun k_ => some k_ ≠ (v732 : Value).ownBlock ∧ some k_ ≠ (.slice Ao51 t744.length co51 : Value).ownBlock ∧ some k_ ≠ (.slice Ao52 t747.length co52 : Value).ownBlock ∧ some k_ ≠ (v758 : Value).ownBlock ∧ some k_ ≠ (.slice Ao39 t728.length co39 : Value).ownBlock ∧ some k_ ≠ (.slice Ao60 t754.length co60 : Value).ownBlock ∧ some k_ ≠ (.slice Ao110 t768.length co110 : Value).ownBlock ∧ some k_ ≠ (.slice Ao113 t772.length co113 : Value).ownBlock ∧ some k_ ≠ (.slice Ao115 t776.length co115 : Value).ownBlock) (Kd.R_keptB (HO_744002.out) hkp (fun k_ hk_ hs_ => (hk_.2.2.1) hs_)) (fun k_ hk_ => ⟨hk_.1.1, hk_.1.2.1, hk_.1.2.2.1, hk_.1.2.2.2.1, hk_.1.2.2.2.2.1, hk_.1.2.2.2.2.2.1, hk_.1.2.2.2.2.2.2.1, hk_.1.2.2.2.2.2.2.2.1, hk_.1.2.2.2.2.2.2.2.2⟩)); have n8_ := Aside0.mk (Kd.R_mono (ok' := fun k_ => some k_ ≠ (.slice Ao38 t725.length co38 : Value).ownBlock ∧ some k_ ≠ (.slice Ao46 t737.length co46 : Value).ownBlock ∧ some k_ ≠ (.slice Ao109 t765.length co109 : Value).ownBlock) (Kd.R_keptB ((Kd.R_apart' HO_762001.out (Kd.R_typed HO_15.out) (by decide))) hkp (fun k_ hk_ hs_ => (hk_.2) hs_)) (fun k_ hk_ => ⟨hk_.1.1.1, hk_.1.1.2.1, hk_.1.1.2.2⟩)); have n9_ := Aside0.mk (Kd.R_mono (ok' := fun k_ => some k_ ≠ (v732 : Value).ownBlock ∧ some k_ ≠ (.slice Ao51 t744.length co51 : Value).ownBlock ∧ some k_ ≠ (.slice Ao52 t747.length co52 : Value).ownBlock ∧ some k_ ≠ (v758 : Value).ownBlock ∧ some k_ ≠ (.slice Ao39 t728.length co39 : Value).ownBlock ∧ some k_ ≠ (.slice Ao47 t740.length co47 : Value).ownBlock ∧ some k_ ≠ (.slice Ao110 t768.length co110 : Value).ownBlock ∧ some k_ ≠ (.slice Ao113 t772.length co113 : Value).ownBlock ∧ some k_ ≠ (.slice Ao115 t776.length co115 : Value).ownBlock) (Kd.R_keptB (HO_762002.out) hkp (fun k_ hk_ hs_ => (hk_.2.2.1) hs_)) (fun k_ hk_ => ⟨hk_.1.1, hk_.1.2.1, hk_.1.2.2.1, hk_.1.2.2.2.1, hk_.1.2.2.2.2.1, hk_.1.2.2.2.2.2.1, hk_.1.2.2.2.2.2.2.1, hk_.1.2.2.2.2.2.2.2.1, hk_.1.2.2.2.2.2.2.2.2⟩)); have n10_ := Aside0.mk (blk_kept BK709.out hkp (fun hs_ => (fun e_ => (Kd.R_ne HO_15.out BK709.out (by decide)) e_) hs_)); have n11_ := Aside0.mk (blk_kept BK735.out hkp (fun hs_ => (fun e_ => (Kd.R_ne HO_15.out BK735.out (by decide)) e_) hs_)); have n12_ := Aside0.mk (blk_kept BK743.out hkp (fun hs_ => (fun e_ => (Kd.R_ne HO_15.out BK743.out (by decide)) e_) hs_)); have n13_ := Aside0.mk (blk_kept BK761.out hkp (fun hs_ => (fun e_ => (Kd.R_ne HO_15.out BK761.out (by decide)) e_) hs_)); have n14_ := Aside0.mk (Kd.R_mono (ok' := fun k_ => some k_ ≠ (.slice Ao38 t725.length co38 : Value).ownBlock ∧ some k_ ≠ (.slice Ao46 t737.length co46 : Value).ownBlock ∧ some k_ ≠ (.slice Ao59 t751.length co59 : Value).ownBlock) (Kd.R_keptB ((Kd.R_apart' HO767.out (Kd.R_typed HO_15.out) (by decide))) hkp (fun k_ hk_ hs_ => (hk_.2) hs_)) (fun k_ hk_ => ⟨hk_.1.1.1, hk_.1.1.2.1, hk_.1.1.2.2⟩)); have n15_ := Aside0.mk (Kd.R_mono (ok' := fun k_ => some k_ ≠ (v732 : Value).ownBlock ∧ some k_ ≠ (.slice Ao51 t744.length co51 : Value).ownBlock ∧ some k_ ≠ (.slice Ao52 t747.length co52 : Value).ownBlock ∧ some k_ ≠ (v758 : Value).ownBlock ∧ some k_ ≠ (.slice Ao39 t728.length co39 : Value).ownBlock ∧ some k_ ≠ (.slice Ao47 t740.length co47 : Value).ownBlock ∧ some k_ ≠ (.slice Ao60 t754.length co60 : Value).ownBlock ∧ some k_ ≠ (.slice Ao113 t772.length co113 : Value).ownBlock ∧ some k_ ≠ (.slice Ao115 t776.length co115 : Value).ownBlock) (Kd.R_keptB (HO770.out) hkp (fun k_ hk_ hs_ => (hk_.2.2.1) hs_)) (fun k_ hk_ => ⟨hk_.1.1, hk_.1.2.1, hk_.1.2.2.1, hk_.1.2.2.2.1, hk_.1.2.2.2.2.1, hk_.1.2.2.2.2.2.1, hk_.1.2.2.2.2.2.2.1, hk_.1.2.2.2.2.2.2.2.1, hk_.1.2.2.2.2.2.2.2.2⟩)); have n16_ := Aside0.mk (Kd.R_mono (ok' := fun k_ => some k_ ≠ (v732 : Value).ownBlock ∧ some k_ ≠ (.slice Ao51 t744.length co51 : Value).ownBlock ∧ some k_ ≠ (.slice Ao52 t747.length co52 : Value).ownBlock ∧ some k_ ≠ (v758 : Value).ownBlock ∧ some k_ ≠ (.slice Ao39 t728.length co39 : Value).ownBlock ∧ some k_ ≠ (.slice Ao47 t740.length co47 : Value).ownBlock ∧ some k_ ≠ (.slice Ao60 t754.length co60 : Value).ownBlock ∧ some k_ ≠ (.slice Ao110 t768.length co110 : Value).ownBlock ∧ some k_ ≠ (.slice Ao115 t776.length co115 : Value).ownBlock) (Kd.R_keptB (HO774.out) hkp (fun k_ hk_ hs_ => (hk_.2.2.1) hs_)) (fun k_ hk_ => ⟨hk_.1.1, hk_.1.2.1, hk_.1.2.2.1, hk_.1.2.2.2.1, hk_.1.2.2.2.2.1, hk_.1.2.2.2.2.2.1, hk_.1.2.2.2.2.2.2.1, hk_.1.2.2.2.2.2.2.2.1, hk_.1.2.2.2.2.2.2.2.2⟩)); have n17_ := Aside0.mk (Kd.R_mono (ok' := fun k_ => some k_ ≠ (v732 : Value).ownBlock ∧ some k_ ≠ (.slice Ao51 t744.length co51 : Value).ownBlock ∧ some k_ ≠ (.slice Ao52 t747.length co52 : Value).ownBlock ∧ some k_ ≠ (v758 : Value).ownBlock ∧ some k_ ≠ (.slice Ao39 t728.length co39 : Value).ownBlock ∧ some k_ ≠ (.slice Ao47 t740.length co47 : Value).ownBlock ∧ some k_ ≠ (.slice Ao60 t754.length co60 : Value).ownBlock ∧ some k_ ≠ (.slice Ao110 t768.length co110 : Value).ownBlock ∧ some k_ ≠ (.slice Ao113 t772.length co113 : Value).ownBlock) (Kd.R_keptB (HO778.out) hkp (fun k_ hk_ hs_ => (hk_.2.2.1) hs_)) (fun k_ hk_ => ⟨hk_.1.1, hk_.1.2.1, hk_.1.2.2.1, hk_.1.2.2.2.1, hk_.1.2.2.2.2.1, hk_.1.2.2.2.2.2.1, hk_.1.2.2.2.2.2.2.1, hk_.1.2.2.2.2.2.2.2.1, hk_.1.2.2.2.2.2.2.2.2⟩)); have n18_ := Aside0.mk (hb); clear HO_11; clear HO_14; clear HO_15; clear HO_17; clear HO_736001; clear HO_736002; clear HO_744001; clear HO_744002; clear HO_762001; clear HO_762002; clear BK709; clear BK735; clear BK743; clear BK761; clear HO767; clear HO770; clear HO774; clear HO778; clear HB; have HO_11 := n0_; have HO_14 := n1_; have HO_15 := n2_; have HO_17 := n3_; have HO_736001 := n4_; have HO_736002 := n5_; have HO_744001 := n6_; have HO_744002 := n7_; have HO_762001 := n8_; have HO_762002 := n9_; have BK709 := n10_; have BK735 := n11_; have BK743 := n12_; have BK761 := n13_; have HO767 := n14_; have HO770 := n15_; have HO774 := n16_; have HO778 := n17_; have HB := n18_; clear n0_ n1_ n2_ n3_ n4_ n5_ n6_ n7_ n8_ n9_ n10_ n11_ n12_ n13_ n14_ n15_ n16_ n17_ n18_; (try clear hb); (try clear hkp); (try clear hy0)))
          (try simp only [Act.put, List.setIfInBounds_toArray, List.set_cons_zero, List.set_cons_succ])
          go_cut [120] (fun v120 wc => ∃ (kq : Nat) (x120_105 : Bool), v120 = .bool x120_105 ∧ Aside0 (laws_FnExactAddGates.j1 kq l1 l2 a3 t731 t734 t757 x120_105 a0_0 l0_1 l0_2 t724 t725 t728 t750 t751 t754 = some true) ∧ Aside0 (kq ≤ kj21) ∧ Aside0 (Kd.R (Kd.int .i64) 3 wc w.heap.size (fun k_ => some k_ ≠ (v758 : Value).ownBlock ∧ some k_ ≠ ((.slice Ao39 t728.length co39) : Value).ownBlock ∧ some k_ ≠ ((.slice Ao47 t740.length co47) : Value).ownBlock ∧ some k_ ≠ ((.slice Ao60 t754.length co60) : Value).ownBlock) v732 t731) ∧ Aside0 (Kd.R (Kd.int .i64) 3 wc w.heap.size (fun k_ => some k_ ≠ (v732 : Value).ownBlock ∧ some k_ ≠ ((.slice Ao39 t728.length co39) : Value).ownBlock ∧ some k_ ≠ ((.slice Ao47 t740.length co47) : Value).ownBlock ∧ some k_ ≠ ((.slice Ao60 t754.length co60) : Value).ownBlock) v758 t757) ∧ Aside0 (Kd.R k59 59 wc w.heap.size (fun k_ => some k_ ≠ ((.slice Ao46 t737.length co46) : Value).ownBlock ∧ some k_ ≠ ((.slice Ao59 t751.length co59) : Value).ownBlock) (.slice Ao38 t725.length co38) t725) ∧ Aside0 (Kd.R (Kd.int .i64) 3 wc w.heap.size (fun k_ => some k_ ≠ (v732 : Value).ownBlock ∧ some k_ ≠ (v758 : Value).ownBlock ∧ some k_ ≠ ((.slice Ao47 t740.length co47) : Value).ownBlock ∧ some k_ ≠ ((.slice Ao60 t754.length co60) : Value).ownBlock) (.slice Ao39 t728.length co39) t728) ∧ Aside0 (Kd.R k59 59 wc w.heap.size (fun k_ => some k_ ≠ ((.slice Ao38 t725.length co38) : Value).ownBlock ∧ some k_ ≠ ((.slice Ao59 t751.length co59) : Value).ownBlock) (.slice Ao46 t737.length co46) t781) ∧ Aside0 (Kd.R (Kd.int .i64) 3 wc w.heap.size (fun k_ => some k_ ≠ (v732 : Value).ownBlock ∧ some k_ ≠ (v758 : Value).ownBlock ∧ some k_ ≠ ((.slice Ao39 t728.length co39) : Value).ownBlock ∧ some k_ ≠ ((.slice Ao60 t754.length co60) : Value).ownBlock) (.slice Ao47 t740.length co47) t782) ∧ Aside0 (Kd.R k59 59 wc w.heap.size (fun k_ => some k_ ≠ ((.slice Ao38 t725.length co38) : Value).ownBlock ∧ some k_ ≠ ((.slice Ao46 t737.length co46) : Value).ownBlock) (.slice Ao59 t751.length co59) t751) ∧ Aside0 (Kd.R (Kd.int .i64) 3 wc w.heap.size (fun k_ => some k_ ≠ (v732 : Value).ownBlock ∧ some k_ ≠ (v758 : Value).ownBlock ∧ some k_ ≠ ((.slice Ao39 t728.length co39) : Value).ownBlock ∧ some k_ ≠ ((.slice Ao47 t740.length co47) : Value).ownBlock) (.slice Ao60 t754.length co60) t754) ∧ Aside0 (wc.heap[gb709]? = some (.cells #[.int .i64 a0_0, (.slice A0_1 l0_1.length c0_1), (.slice A0_2 l0_2.length c0_2)] 25 (0, 0))) ∧ Aside0 (wc.heap[gb735]? = some (.cells #[.int .i64 t724, (.slice Ao38 t725.length co38), (.slice Ao39 t728.length co39)] 30 (0, 0))) ∧ Aside0 (wc.heap[gb743]? = some (.cells #[.int .i64 t736, (.slice Ao46 t737.length co46), (.slice Ao47 t740.length co47)] 30 (0, 0))) ∧ Aside0 (wc.heap[gb761]? = some (.cells #[.int .i64 t750, (.slice Ao59 t751.length co59), (.slice Ao60 t754.length co60)] 30 (0, 0))) ∧ Aside0 (Below w.heap.size w wc))
          case first =>
           have H := HC106.out
           clear HC106
           by_cases c123 : t785 < 0
           ·rw [if_pos c123] at H
            exact absurd H (by cases kj21 <;> simp [laws_FnExactAddGates.j1])
           ·rw [if_neg c123] at H
            have c123b0 : decide (t785 < 0) = false := decide_eq_false c123
            clear c123
            (first | rw [c123b0] | (simp only [i64_w, i32_w]; rw [c123b0]) | skip)
            replace H := Option.bind_eq_some_iff.mp H
            obtain ⟨t787, A1240, H⟩ := H
            replace H : (if t787 = true then ((laws_eqIntS.f kj21 t757 t731).bind fun t788 => (if t788 = true then (laws_FnExactAddGates.j1 kj21 l1 l2 a3 t731 t734 t757 (t760 != t734) a0_0 l0_1 l0_2 t724 t725 t728 t750 t751 t754) else (laws_FnExactAddGates.j1 kj21 l1 l2 a3 t731 t734 t757 true a0_0 l0_1 l0_2 t724 t725 t728 t750 t751 t754))) else (laws_FnExactAddGates.j1 kj21 l1 l2 a3 t731 t734 t757 true a0_0 l0_1 l0_2 t724 t725 t728 t750 t751 t754)) = some true := H
            have A124 := Aside0.mk A1240
            clear A1240
            by_cases c125 : t787 = true
            ·subst c125
             have H1 : ((laws_eqIntS.f kj21 t757 t731).bind fun t788 => (if t788 = true then (laws_FnExactAddGates.j1 kj21 l1 l2 a3 t731 t734 t757 (t760 != t734) a0_0 l0_1 l0_2 t724 t725 t728 t750 t751 t754) else (laws_FnExactAddGates.j1 kj21 l1 l2 a3 t731 t734 t757 true a0_0 l0_1 l0_2 t724 t725 t728 t750 t751 t754))) = some true := by rw [if_pos rfl] at H; exact H
             clear H
             have H := H1
             clear H1
             replace H := Option.bind_eq_some_iff.mp H
             obtain ⟨t788, A1260, H⟩ := H
             replace H : (if t788 = true then (laws_FnExactAddGates.j1 kj21 l1 l2 a3 t731 t734 t757 (t760 != t734) a0_0 l0_1 l0_2 t724 t725 t728 t750 t751 t754) else (laws_FnExactAddGates.j1 kj21 l1 l2 a3 t731 t734 t757 true a0_0 l0_1 l0_2 t724 t725 t728 t750 t751 t754)) = some true := H
             have A126 := Aside0.mk A1260
             clear A1260
             by_cases c127 : t788 = true
             ·subst c127
              have H1 : (laws_FnExactAddGates.j1 kj21 l1 l2 a3 t731 t734 t757 (t760 != t734) a0_0 l0_1 l0_2 t724 t725 t728 t750 t751 t754) = some true := by rw [if_pos rfl] at H; exact H
              clear H
              have H := H1
              clear H1
              have H' := Aside0.mk H
              clear H
              have hnb128 := NB761_709.out
              have hnc128 := NB709_761.out
              have hnb129 := NB761_735.out
              have hnc129 := NB735_761.out
              have hnb130 := NB761_743.out
              have hnc130 := NB743_761.out
              have hcz131_0 : w122.cell? ⟨gb761, 0, none⟩ = some (.int .i64 t750) := (blk_cell BK761.out 0).trans rfl
              have hcz131_1 : w122.cell? ⟨gb761, 1, none⟩ = some (.slice Ao59 t751.length co59) := (blk_cell BK761.out 1).trans rfl
              have hcz131_2 : w122.cell? ⟨gb761, 2, none⟩ = some (.slice Ao60 t754.length co60) := (blk_cell BK761.out 2).trans rfl
              have hfz131_0 := blk_frozen BK761.out 0
              have hfz131_1 := blk_frozen BK761.out 1
              have hfz131_2 := blk_frozen BK761.out 2
              have hnb132 := NB735_709.out
              have hnc132 := NB709_735.out
              have hnb133 := NB735_743.out
              have hnc133 := NB743_735.out
              have hcz134_0 : w122.cell? ⟨gb735, 0, none⟩ = some (.int .i64 t724) := (blk_cell BK735.out 0).trans rfl
              have hcz134_1 : w122.cell? ⟨gb735, 1, none⟩ = some (.slice Ao38 t725.length co38) := (blk_cell BK735.out 1).trans rfl
              have hcz134_2 : w122.cell? ⟨gb735, 2, none⟩ = some (.slice Ao39 t728.length co39) := (blk_cell BK735.out 2).trans rfl
              have hfz134_0 := blk_frozen BK735.out 0
              have hfz134_1 := blk_frozen BK735.out 1
              have hfz134_2 := blk_frozen BK735.out 2
              go_wp2_with (first | (go_at_call 15; (with_reducible refine (laws_eqCircuit.calls kj21 t750 _ _ t751 _ _ t754 t724 _ _ t725 _ _ t728 true _ ?side1 ?side2 ?side3 ?side4 ?side5 ?side6 ?side7 ?side8 A124.out).mono ?_); (case side1 => repeat (first | exact (Kd.R_reads' HO_762001.out).2.2 | (with_reducible refine Kd.C_alloc ?_ _) | (with_reducible refine Kd.C_drewN ?_ _) | (with_reducible refine Kd.C_drew ?_))); (case side2 => exact (Kd.R_reads' HO_762001.out).2.1); (case side3 => repeat (first | exact (Kd.R_reads' HO_762002.out).2.2 | (with_reducible refine Kd.C_alloc ?_ _) | (with_reducible refine Kd.C_drewN ?_ _) | (with_reducible refine Kd.C_drew ?_))); (case side4 => exact (Kd.R_reads' HO_762002.out).2.1); (case side5 => repeat (first | exact (Kd.R_reads' HO_736001.out).2.2 | (with_reducible refine Kd.C_alloc ?_ _) | (with_reducible refine Kd.C_drewN ?_ _) | (with_reducible refine Kd.C_drew ?_))); (case side6 => exact (Kd.R_reads' HO_736001.out).2.1); (case side7 => repeat (first | exact (Kd.R_reads' HO_736002.out).2.2 | (with_reducible refine Kd.C_alloc ?_ _) | (with_reducible refine Kd.C_drewN ?_ _) | (with_reducible refine Kd.C_drew ?_))); (case side8 => exact (Kd.R_reads' HO_736002.out).2.1); rintro e w135 ⟨rfl, hb⟩; have n0_ := Aside0.mk (Kd.R_below (qR HO_11.out) hb); have n1_ := Aside0.mk (Kd.R_below (qR HO_14.out) hb); have n2_ := Aside0.mk (Kd.R_below (qR HO_15.out) hb); have n3_ := Aside0.mk (Kd.R_below (qR HO_17.out) hb); have n4_ := Aside0.mk (Kd.R_below (qR HO_736001.out) hb); have n5_ := Aside0.mk (Kd.R_below (qR HO_736002.out) hb); have n6_ := Aside0.mk (Kd.R_below (qR HO_744001.out) hb); have n7_ := Aside0.mk (Kd.R_below (qR HO_744002.out) hb); have n8_ := Aside0.mk (Kd.R_below (qR HO_762001.out) hb); have n9_ := Aside0.mk (Kd.R_below (qR HO_762002.out) hb); have n10_ := Aside0.mk (Kd.R_below (qR HO767.out) hb); have n11_ := Aside0.mk (Kd.R_below (qR HO770.out) hb); have n12_ := Aside0.mk (Kd.R_below (qR HO774.out) hb); have n13_ := Aside0.mk (Kd.R_below (qR HO778.out) hb); have n14_ := Aside0.mk (blk_below (g := gb709) (o := .cells #[.int .i64 a0_0, .slice A0_1 l0_1.length c0_1, .slice A0_2 l0_2.length c0_2] 25 (0, 0)) (qK BK709.out) hb); have n15_ := Aside0.mk (blk_below (g := gb735) (o := .cells #[.int .i64 t724, .slice Ao38 t725.length co38, .slice Ao39 t728.length co39] 30 (0, 0)) (qK BK735.out) hb); have n16_ := Aside0.mk (blk_below (g := gb743) (o := .cells #[.int .i64 t736, .slice Ao46 t737.length co46, .slice Ao47 t740.length co47] 30 (0, 0)) (qK BK743.out) hb); have n17_ := Aside0.mk (blk_below (g := gb761) (o := .cells #[.int .i64 t750, .slice Ao59 t751.length co59, .slice Ao60 t754.length co60] 30 (0, 0)) (qK BK761.out) hb); have n18_ := Aside0.mk (below_step (qB) hb); clear HO_11; clear HO_14; clear HO_15; clear HO_17; clear HO_736001; clear HO_736002; clear HO_744001; clear HO_744002; clear HO_762001; clear HO_762002; clear HO767; clear HO770; clear HO774; clear HO778; clear BK709; clear BK735; clear BK743; clear BK761; clear HB; have HO_11 := n0_; have HO_14 := n1_; have HO_15 := n2_; have HO_17 := n3_; have HO_736001 := n4_; have HO_736002 := n5_; have HO_744001 := n6_; have HO_744002 := n7_; have HO_762001 := n8_; have HO_762002 := n9_; have HO767 := n10_; have HO770 := n11_; have HO774 := n12_; have HO778 := n13_; have BK709 := n14_; have BK735 := n15_; have BK743 := n16_; have BK761 := n17_; have HB := n18_; clear n0_ n1_ n2_ n3_ n4_ n5_ n6_ n7_ n8_ n9_ n10_ n11_ n12_ n13_ n14_ n15_ n16_ n17_ n18_; (try clear hb); (try clear hb2); (try clear hk); (try clear hi); obtain ⟨Ao136, co136, eo136⟩ := Kd.R_slice HO_17.out; subst eo136; obtain ⟨Ao137, co137, eo137⟩ := Kd.R_slice HO_11.out; subst eo137) | (go_at_call 27; (with_reducible refine (laws_eqIntS.calls kj21 _ _ t757 _ _ t731 true _ ?side1 ?side2 ?side3 ?side4 A126.out).mono ?_); (case side1 => repeat (first | exact (Kd.R_reads' HO_17.out).2.2 | (with_reducible refine Kd.C_alloc ?_ _) | (with_reducible refine Kd.C_drewN ?_ _) | (with_reducible refine Kd.C_drew ?_))); (case side2 => exact (Kd.R_reads' HO_17.out).2.1); (case side3 => repeat (first | exact (Kd.R_reads' HO_11.out).2.2 | (with_reducible refine Kd.C_alloc ?_ _) | (with_reducible refine Kd.C_drewN ?_ _) | (with_reducible refine Kd.C_drew ?_))); (case side4 => exact (Kd.R_reads' HO_11.out).2.1); rintro e w' ⟨rfl, ⟨nd, rfl⟩⟩))
              go_meet
              case rel => exact ⟨_, ((t760 != t734)), qS, H', ⟨by have := HJ21.out; first | omega | exact Nat.le_refl _⟩, ⟨by (with_reducible repeat (first | apply Kd.R_alloc | apply Kd.R_drewN | apply Kd.R_drew)); exact Kd.R_mono HO_11.out (fun _ hk => ⟨hk.2.2.1, ⟨hk.2.2.2.1, ⟨hk.2.2.2.2.1, hk.2.2.2.2.2.1⟩⟩⟩)⟩, ⟨by (with_reducible repeat (first | apply Kd.R_alloc | apply Kd.R_drewN | apply Kd.R_drew)); exact Kd.R_mono HO_17.out (fun _ hk => ⟨hk.1, ⟨hk.2.2.2.1, ⟨hk.2.2.2.2.1, hk.2.2.2.2.2.1⟩⟩⟩)⟩, ⟨by (with_reducible repeat (first | apply Kd.R_alloc | apply Kd.R_drewN | apply Kd.R_drew)); exact Kd.R_mono HO_736001.out (fun _ hk => ⟨hk.1, hk.2.1⟩)⟩, ⟨by (with_reducible repeat (first | apply Kd.R_alloc | apply Kd.R_drewN | apply Kd.R_drew)); exact Kd.R_mono HO_736002.out (fun _ hk => ⟨hk.1, ⟨hk.2.2.2.1, ⟨hk.2.2.2.2.1, hk.2.2.2.2.2.1⟩⟩⟩)⟩, ⟨by (with_reducible repeat (first | apply Kd.R_alloc | apply Kd.R_drewN | apply Kd.R_drew)); exact Kd.R_mono HO_744001.out (fun _ hk => ⟨hk.1, hk.2.1⟩)⟩, ⟨by (with_reducible repeat (first | apply Kd.R_alloc | apply Kd.R_drewN | apply Kd.R_drew)); exact Kd.R_mono HO_744002.out (fun _ hk => ⟨hk.1, ⟨hk.2.2.2.1, ⟨hk.2.2.2.2.1, hk.2.2.2.2.2.1⟩⟩⟩)⟩, ⟨by (with_reducible repeat (first | apply Kd.R_alloc | apply Kd.R_drewN | apply Kd.R_drew)); exact Kd.R_mono HO_762001.out (fun _ hk => ⟨hk.1, hk.2.1⟩)⟩, ⟨by (with_reducible repeat (first | apply Kd.R_alloc | apply Kd.R_drewN | apply Kd.R_drew)); exact Kd.R_mono HO_762002.out (fun _ hk => ⟨hk.1, ⟨hk.2.2.2.1, ⟨hk.2.2.2.2.1, hk.2.2.2.2.2.1⟩⟩⟩)⟩, ⟨by exact qK BK709.out⟩, ⟨by exact qK BK735.out⟩, ⟨by exact qK BK743.out⟩, ⟨by exact qK BK761.out⟩, ⟨qB⟩⟩
             ·replace c127 := Bool.eq_false_iff.mpr c127
              subst c127
              have H1 : (laws_FnExactAddGates.j1 kj21 l1 l2 a3 t731 t734 t757 true a0_0 l0_1 l0_2 t724 t725 t728 t750 t751 t754) = some true := by rw [if_neg (show ¬ (false = true) by decide)] at H; exact H
              exact absurd H1 (by cases kj21 <;> simp [laws_FnExactAddGates.j1])
            ·replace c125 := Bool.eq_false_iff.mpr c125
             subst c125
             have H1 : (laws_FnExactAddGates.j1 kj21 l1 l2 a3 t731 t734 t757 true a0_0 l0_1 l0_2 t724 t725 t728 t750 t751 t754) = some true := by rw [if_neg (show ¬ (false = true) by decide)] at H; exact H
             exact absurd H1 (by cases kj21 <;> simp [laws_FnExactAddGates.j1])
          case rest =>
           clear HC106
           try clear p2
           try clear c5b0
           try clear c5b1
           try clear c7b0
           try clear c7b1
           try clear c10b0
           try clear c123b0
           try clear hcz119_0
           try clear hcz119_1
           try clear hcz119_2
           try clear hcz12_0
           try clear hcz12_1
           try clear hcz12_2
           try clear hcz131_0
           try clear hcz131_1
           try clear hcz131_2
           try clear hcz134_0
           try clear hcz134_1
           try clear hcz134_2
           try clear hcz141_0
           try clear hcz141_1
           try clear hcz141_2
           try clear hcz144_0
           try clear hcz144_1
           try clear hcz144_2
           try clear hcz151_0
           try clear hcz151_1
           try clear hcz151_2
           try clear hcz154_0
           try clear hcz154_1
           try clear hcz154_2
           try clear hcz24_0
           try clear hcz24_1
           try clear hcz24_2
           try clear hcz26_0
           try clear hcz26_1
           try clear hcz26_2
           try clear hcz37_0
           try clear hcz37_1
           try clear hcz37_2
           try clear hcz40_0
           try clear hcz40_1
           try clear hcz40_2
           try clear hcz45_0
           try clear hcz45_1
           try clear hcz45_2
           try clear hcz50_0
           try clear hcz50_1
           try clear hcz50_2
           try clear hcz58_0
           try clear hcz58_1
           try clear hcz58_2
           try clear hcz68_0
           try clear hcz68_1
           try clear hcz68_2
           try clear hcz71_0
           try clear hcz71_1
           try clear hcz71_2
           try clear hcz78_0
           try clear hcz78_1
           try clear hcz78_2
           try clear hcz81_0
           try clear hcz81_1
           try clear hcz81_2
           try clear hcz88_0
           try clear hcz88_1
           try clear hcz88_2
           try clear hcz91_0
           try clear hcz91_1
           try clear hcz91_2
           try clear hfz119_0
           try clear hfz119_1
           try clear hfz119_2
           try clear hfz12_0
           try clear hfz12_1
           try clear hfz12_2
           try clear hfz131_0
           try clear hfz131_1
           try clear hfz131_2
           try clear hfz134_0
           try clear hfz134_1
           try clear hfz134_2
           try clear hfz141_0
           try clear hfz141_1
           try clear hfz141_2
           try clear hfz144_0
           try clear hfz144_1
           try clear hfz144_2
           try clear hfz151_0
           try clear hfz151_1
           try clear hfz151_2
           try clear hfz154_0
           try clear hfz154_1
           try clear hfz154_2
           try clear hfz24_0
           try clear hfz24_1
           try clear hfz24_2
           try clear hfz26_0
           try clear hfz26_1
           try clear hfz26_2
           try clear hfz37_0
           try clear hfz37_1
           try clear hfz37_2
           try clear hfz40_0
           try clear hfz40_1
           try clear hfz40_2
           try clear hfz45_0
           try clear hfz45_1
           try clear hfz45_2
           try clear hfz50_0
           try clear hfz50_1
           try clear hfz50_2
           try clear hfz58_0
           try clear hfz58_1
           try clear hfz58_2
           try clear hfz68_0
           try clear hfz68_1
           try clear hfz68_2
           try clear hfz71_0
           try clear hfz71_1
           try clear hfz71_2
           try clear hfz78_0
           try clear hfz78_1
           try clear hfz78_2
           try clear hfz81_0
           try clear hfz81_1
           try clear hfz81_2
           try clear hfz88_0
           try clear hfz88_1
           try clear hfz88_2
           try clear hfz91_0
           try clear hfz91_1
           try clear hfz91_2
           try clear p2
           obtain ⟨kq, x120_105, rfl, HA, HJ105, HO_11, HO_17, HO_736001, HO_736002, HO_744001, HO_744002, HO_762001, HO_762002, BK709, BK735, BK743, BK761, HB⟩ := hcut
           have hl744001_105 := (Kd.R_reads' HO_744001.out).1
           rw [hl744001_105] at HO_744001
           (try simp only [hl744001_105])
           (try simp only [hl744001_105] at BK709)
           (try simp only [hl744001_105] at BK735)
           (try simp only [hl744001_105] at BK743)
           (try simp only [hl744001_105] at BK761)
           (try simp only [hl744001_105] at HO_11)
           (try simp only [hl744001_105] at HO_17)
           (try simp only [hl744001_105] at HO_736001)
           (try simp only [hl744001_105] at HO_736002)
           (try simp only [hl744001_105] at HO_744002)
           (try simp only [hl744001_105] at HO_762001)
           (try simp only [hl744001_105] at HO_762002)
           have hl744002_105 := (Kd.R_reads' HO_744002.out).1
           rw [hl744002_105] at HO_744002
           (try simp only [hl744002_105])
           (try simp only [hl744002_105] at BK709)
           (try simp only [hl744002_105] at BK735)
           (try simp only [hl744002_105] at BK743)
           (try simp only [hl744002_105] at BK761)
           (try simp only [hl744002_105] at HO_11)
           (try simp only [hl744002_105] at HO_17)
           (try simp only [hl744002_105] at HO_736001)
           (try simp only [hl744002_105] at HO_736002)
           (try simp only [hl744002_105] at HO_744001)
           (try simp only [hl744002_105] at HO_762001)
           (try simp only [hl744002_105] at HO_762002)
           cases kq with
           | zero => exact absurd HA.out (by simp [laws_FnExactAddGates.j1])
           | succ kj105 =>
            have H := HA.out
            clear HA
            simp only [laws_FnExactAddGates.j1] at H
            by_cases c156 : x120_105 = true
            ·subst c156
             have H1 : (some false) = some true := by rw [if_pos rfl] at H; exact H
             exact absurd H1 (by simp)
            ·replace c156 := Bool.eq_false_iff.mpr c156
             subst c156
             have H1 : ((laws_markCircuit.f kj105 t750 t751 t754 1).bind fun bt789 => ((laws_markIntS.f kj105 t757 bt789.1).bind fun bt792 => ((laws_heldCircuit.f kj105 t750 bt789.2.1 bt789.2.2 1).bind fun t794 => (if t794 < 0 then (some false) else ((laws_heldIntS.f kj105 bt792.2 t794).bind fun t795 => (if t795 < 0 then (some false) else (if t795 = bt792.1 then ((laws_toCircuit.f kj105 a0_0 l0_1 l0_2).bind fun bt796 => ((laws_toIntS.f kj105 l1).bind fun t803 => ((laws_toIntS.f kj105 l2).bind fun t806 => ((impl_AddGates.f kj105 bt796.1 bt796.2.1 bt796.2.2 t803 t806 a3).bind fun bt809 => ((laws_eqCircuit.f kj105 bt809.1 bt809.2.1 bt809.2.2.1 t724 t725 t728).bind fun t821 => (if t821 = true then ((laws_eqIntS.f kj105 bt809.2.2.2.1 t731).bind fun t822 => (if t822 = true then (laws_FnExactAddGates.j2 kj105 bt792.2 bt792.1 (bt809.2.2.2.2 != t734) t750 bt789.2.1 bt789.2.2) else (laws_FnExactAddGates.j2 kj105 bt792.2 bt792.1 true t750 bt789.2.1 bt789.2.2))) else (laws_FnExactAddGates.j2 kj105 bt792.2 bt792.1 true t750 bt789.2.1 bt789.2.2))))))) else (some false)))))))) = some true := by rw [if_neg (show ¬ (false = true) by decide)] at H; exact H
             clear H
             have H := H1
             clear H1
             replace H := Option.bind_eq_some_iff.mp H
             obtain ⟨⟨t789, t790, t791⟩, A1570, H⟩ := H
             replace H : ((laws_markIntS.f kj105 t757 t789).bind fun bt792 => ((laws_heldCircuit.f kj105 t750 t790 t791 1).bind fun t794 => (if t794 < 0 then (some false) else ((laws_heldIntS.f kj105 bt792.2 t794).bind fun t795 => (if t795 < 0 then (some false) else (if t795 = bt792.1 then ((laws_toCircuit.f kj105 a0_0 l0_1 l0_2).bind fun bt796 => ((laws_toIntS.f kj105 l1).bind fun t803 => ((laws_toIntS.f kj105 l2).bind fun t806 => ((impl_AddGates.f kj105 bt796.1 bt796.2.1 bt796.2.2 t803 t806 a3).bind fun bt809 => ((laws_eqCircuit.f kj105 bt809.1 bt809.2.1 bt809.2.2.1 t724 t725 t728).bind fun t821 => (if t821 = true then ((laws_eqIntS.f kj105 bt809.2.2.2.1 t731).bind fun t822 => (if t822 = true then (laws_FnExactAddGates.j2 kj105 bt792.2 bt792.1 (bt809.2.2.2.2 != t734) t750 t790 t791) else (laws_FnExactAddGates.j2 kj105 bt792.2 bt792.1 true t750 t790 t791))) else (laws_FnExactAddGates.j2 kj105 bt792.2 bt792.1 true t750 t790 t791))))))) else (some false))))))) = some true := H
             have A157 := Aside0.mk A1570
             clear A1570
             replace H := Option.bind_eq_some_iff.mp H
             obtain ⟨⟨t792, t793⟩, A1580, H⟩ := H
             replace H : ((laws_heldCircuit.f kj105 t750 t790 t791 1).bind fun t794 => (if t794 < 0 then (some false) else ((laws_heldIntS.f kj105 t793 t794).bind fun t795 => (if t795 < 0 then (some false) else (if t795 = t792 then ((laws_toCircuit.f kj105 a0_0 l0_1 l0_2).bind fun bt796 => ((laws_toIntS.f kj105 l1).bind fun t803 => ((laws_toIntS.f kj105 l2).bind fun t806 => ((impl_AddGates.f kj105 bt796.1 bt796.2.1 bt796.2.2 t803 t806 a3).bind fun bt809 => ((laws_eqCircuit.f kj105 bt809.1 bt809.2.1 bt809.2.2.1 t724 t725 t728).bind fun t821 => (if t821 = true then ((laws_eqIntS.f kj105 bt809.2.2.2.1 t731).bind fun t822 => (if t822 = true then (laws_FnExactAddGates.j2 kj105 t793 t792 (bt809.2.2.2.2 != t734) t750 t790 t791) else (laws_FnExactAddGates.j2 kj105 t793 t792 true t750 t790 t791))) else (laws_FnExactAddGates.j2 kj105 t793 t792 true t750 t790 t791))))))) else (some false)))))) = some true := H
             have A158 := Aside0.mk A1580
             clear A1580
             replace H := Option.bind_eq_some_iff.mp H
             obtain ⟨t794, A1590, H⟩ := H
             replace H : (if t794 < 0 then (some false) else ((laws_heldIntS.f kj105 t793 t794).bind fun t795 => (if t795 < 0 then (some false) else (if t795 = t792 then ((laws_toCircuit.f kj105 a0_0 l0_1 l0_2).bind fun bt796 => ((laws_toIntS.f kj105 l1).bind fun t803 => ((laws_toIntS.f kj105 l2).bind fun t806 => ((impl_AddGates.f kj105 bt796.1 bt796.2.1 bt796.2.2 t803 t806 a3).bind fun bt809 => ((laws_eqCircuit.f kj105 bt809.1 bt809.2.1 bt809.2.2.1 t724 t725 t728).bind fun t821 => (if t821 = true then ((laws_eqIntS.f kj105 bt809.2.2.2.1 t731).bind fun t822 => (if t822 = true then (laws_FnExactAddGates.j2 kj105 t793 t792 (bt809.2.2.2.2 != t734) t750 t790 t791) else (laws_FnExactAddGates.j2 kj105 t793 t792 true t750 t790 t791))) else (laws_FnExactAddGates.j2 kj105 t793 t792 true t750 t790 t791))))))) else (some false))))) = some true := H
             have A159 := Aside0.mk A1590
             clear A1590
             by_cases c160 : t794 < 0
             ·rw [if_pos c160] at H
              exact absurd H (by simp)
             ·rw [if_neg c160] at H
              have c160b0 : decide (t794 < 0) = false := decide_eq_false c160
              clear c160
              replace H := Option.bind_eq_some_iff.mp H
              obtain ⟨t795, A1700, H⟩ := H
              replace H : (if t795 < 0 then (some false) else (if t795 = t792 then ((laws_toCircuit.f kj105 a0_0 l0_1 l0_2).bind fun bt796 => ((laws_toIntS.f kj105 l1).bind fun t803 => ((laws_toIntS.f kj105 l2).bind fun t806 => ((impl_AddGates.f kj105 bt796.1 bt796.2.1 bt796.2.2 t803 t806 a3).bind fun bt809 => ((laws_eqCircuit.f kj105 bt809.1 bt809.2.1 bt809.2.2.1 t724 t725 t728).bind fun t821 => (if t821 = true then ((laws_eqIntS.f kj105 bt809.2.2.2.1 t731).bind fun t822 => (if t822 = true then (laws_FnExactAddGates.j2 kj105 t793 t792 (bt809.2.2.2.2 != t734) t750 t790 t791) else (laws_FnExactAddGates.j2 kj105 t793 t792 true t750 t790 t791))) else (laws_FnExactAddGates.j2 kj105 t793 t792 true t750 t790 t791))))))) else (some false))) = some true := H
              have A170 := Aside0.mk A1700
              clear A1700
              by_cases c171 : t795 < 0
              ·rw [if_pos c171] at H
               exact absurd H (by simp)
              ·rw [if_neg c171] at H
               have c171b0 : decide (t795 < 0) = false := decide_eq_false c171
               clear c171
               by_cases c181 : t795 = t792
               ·rw [if_pos c181] at H
                have c181b0 : (t795 == t792) = true := beq_iff_eq.mpr c181
                have c181b1 : (t795 != t792) = false := bne_eq_false_iff_eq.mpr c181
                clear c181
                replace H := Option.bind_eq_some_iff.mp H
                obtain ⟨⟨t796, t797, t800⟩, A1820, H⟩ := H
                replace H : ((laws_toIntS.f kj105 l1).bind fun t803 => ((laws_toIntS.f kj105 l2).bind fun t806 => ((impl_AddGates.f kj105 t796 t797 t800 t803 t806 a3).bind fun bt809 => ((laws_eqCircuit.f kj105 bt809.1 bt809.2.1 bt809.2.2.1 t724 t725 t728).bind fun t821 => (if t821 = true then ((laws_eqIntS.f kj105 bt809.2.2.2.1 t731).bind fun t822 => (if t822 = true then (laws_FnExactAddGates.j2 kj105 t793 t792 (bt809.2.2.2.2 != t734) t750 t790 t791) else (laws_FnExactAddGates.j2 kj105 t793 t792 true t750 t790 t791))) else (laws_FnExactAddGates.j2 kj105 t793 t792 true t750 t790 t791)))))) = some true := H
                have A182 := Aside0.mk A1820
                clear A1820
                replace H := Option.bind_eq_some_iff.mp H
                obtain ⟨t803, A1830, H⟩ := H
                replace H : ((laws_toIntS.f kj105 l2).bind fun t806 => ((impl_AddGates.f kj105 t796 t797 t800 t803 t806 a3).bind fun bt809 => ((laws_eqCircuit.f kj105 bt809.1 bt809.2.1 bt809.2.2.1 t724 t725 t728).bind fun t821 => (if t821 = true then ((laws_eqIntS.f kj105 bt809.2.2.2.1 t731).bind fun t822 => (if t822 = true then (laws_FnExactAddGates.j2 kj105 t793 t792 (bt809.2.2.2.2 != t734) t750 t790 t791) else (laws_FnExactAddGates.j2 kj105 t793 t792 true t750 t790 t791))) else (laws_FnExactAddGates.j2 kj105 t793 t792 true t750 t790 t791))))) = some true := H
                have A183 := Aside0.mk A1830
                clear A1830
                replace H := Option.bind_eq_some_iff.mp H
                obtain ⟨t806, A1840, H⟩ := H
                replace H : ((impl_AddGates.f kj105 t796 t797 t800 t803 t806 a3).bind fun bt809 => ((laws_eqCircuit.f kj105 bt809.1 bt809.2.1 bt809.2.2.1 t724 t725 t728).bind fun t821 => (if t821 = true then ((laws_eqIntS.f kj105 bt809.2.2.2.1 t731).bind fun t822 => (if t822 = true then (laws_FnExactAddGates.j2 kj105 t793 t792 (bt809.2.2.2.2 != t734) t750 t790 t791) else (laws_FnExactAddGates.j2 kj105 t793 t792 true t750 t790 t791))) else (laws_FnExactAddGates.j2 kj105 t793 t792 true t750 t790 t791)))) = some true := H
                have A184 := Aside0.mk A1840
                clear A1840
                replace H := Option.bind_eq_some_iff.mp H
                obtain ⟨⟨t809, t810, t813, t816, t819⟩, A1850, H⟩ := H
                replace H : ((laws_eqCircuit.f kj105 t809 t810 t813 t724 t725 t728).bind fun t821 => (if t821 = true then ((laws_eqIntS.f kj105 t816 t731).bind fun t822 => (if t822 = true then (laws_FnExactAddGates.j2 kj105 t793 t792 (t819 != t734) t750 t790 t791) else (laws_FnExactAddGates.j2 kj105 t793 t792 true t750 t790 t791))) else (laws_FnExactAddGates.j2 kj105 t793 t792 true t750 t790 t791))) = some true := H
                have A185 := Aside0.mk A1850
                clear A1850
                have HC186 := Aside0.mk H
                clear H
                have hnb187 := NB761_709.out
                have hnc187 := NB709_761.out
                have hnb188 := NB761_735.out
                have hnc188 := NB735_761.out
                have hnb189 := NB761_743.out
                have hnc189 := NB743_761.out
                have hcz190_0 : wc.cell? ⟨gb761, 0, none⟩ = some (.int .i64 t750) := (blk_cell BK761.out 0).trans rfl
                have hcz190_1 : wc.cell? ⟨gb761, 1, none⟩ = some (.slice Ao59 t751.length co59) := (blk_cell BK761.out 1).trans rfl
                have hcz190_2 : wc.cell? ⟨gb761, 2, none⟩ = some (.slice Ao60 t754.length co60) := (blk_cell BK761.out 2).trans rfl
                have hfz190_0 := blk_frozen BK761.out 0
                have hfz190_1 := blk_frozen BK761.out 1
                have hfz190_2 := blk_frozen BK761.out 2
                go_upto_region 41 with (first | ((with_reducible refine gate_callee (f := 20) rfl ?_); refine goesL_ (some 123) rfl rfl Try.func20 (by kernel_rfl) rfl #[.agg #[.int .i64 t750, .slice Ao59 t751.length co59, .slice Ao60 t754.length co60], .int .i64 1] rfl qG ?_; (with_reducible refine (laws_markCircuit.calls kj105 t750 (fun k_ => some k_ = (.slice Ao59 t751.length co59 : Value).ownBlock) (.slice Ao59 t751.length co59) t751 (fun k_ => some k_ = (.slice Ao60 t754.length co60 : Value).ownBlock) (.slice Ao60 t754.length co60) t754 1 t789 t790 t791 w _ ?side1 ?side2 ?side3 A157.out).mono ?_); (case side1 => exact qB); (case side2 => exact Kd.R_tight rfl HO_762001.out); (case side3 => exact Kd.R_tight rfl HO_762002.out); rintro e w191 ⟨rfl, hy0, hy1, hb, hkp⟩; refine ⟨_, rfl, ?_⟩; have n0_ := Aside0.mk (Kd.R_mono (ok' := fun k_ => some k_ ≠ (v758 : Value).ownBlock ∧ some k_ ≠ (.slice Ao39 t728.length co39 : Value).ownBlock ∧ some k_ ≠ (.slice Ao47 t782.length co47 : Value).ownBlock ∧ some k_ ≠ (.slice Ao60 t754.length co60 : Value).ownBlock) (Kd.R_keptB ((Kd.R_apart' HO_11.out (Kd.R_typed HO_762001.out) (by decide))) hkp (fun k_ hk_ hs_ => Or.elim hs_ (fun e_ => (hk_.2) e_) (fun e_ => (hk_.1.2.2.2) e_))) (fun k_ hk_ => ⟨hk_.1.1.1, hk_.1.1.2.1, hk_.1.1.2.2.1, hk_.1.1.2.2.2⟩)); have n1_ := Aside0.mk (Kd.R_mono (ok' := fun k_ => some k_ ≠ (v732 : Value).ownBlock ∧ some k_ ≠ (.slice Ao39 t728.length co39 : Value).ownBlock ∧ some k_ ≠ (.slice Ao47 t782.length co47 : Value).ownBlock ∧ some k_ ≠ (.slice Ao60 t754.length co60 : Value).ownBlock) (Kd.R_keptB ((Kd.R_apart' HO_17.out (Kd.R_typed HO_762001.out) (by decide))) hkp (fun k_ hk_ hs_ => Or.elim hs_ (fun e_ => (hk_.2) e_) (fun e_ => (hk_.1.2.2.2) e_))) (fun k_ hk_ => ⟨hk_.1.1.1, hk_.1.1.2.1, hk_.1.1.2.2.1, hk_.1.1.2.2.2⟩)); have n2_ := Aside0.mk (Kd.R_mono (ok' := fun k_ => some k_ ≠ (.slice Ao46 t781.length co46 : Value).ownBlock ∧ some k_ ≠ (.slice Ao59 t751.length co59 : Value).ownBlock) (Kd.R_keptB ((Kd.R_apart' HO_736001.out (Kd.R_typed HO_762002.out) (by decide))) hkp (fun k_ hk_ hs_ => Or.elim hs_ (fun e_ => (hk_.1.2) e_) (fun e_ => (hk_.2) e_))) (fun k_ hk_ => ⟨hk_.1.1.1, hk_.1.1.2⟩)); have n3_ := Aside0.mk (Kd.R_mono (ok' := fun k_ => some k_ ≠ (v732 : Value).ownBlock ∧ some k_ ≠ (v758 : Value).ownBlock ∧ some k_ ≠ (.slice Ao47 t782.length co47 : Value).ownBlock ∧ some k_ ≠ (.slice Ao60 t754.length co60 : Value).ownBlock) (Kd.R_keptB ((Kd.R_apart' HO_736002.out (Kd.R_typed HO_762001.out) (by decide))) hkp (fun k_ hk_ hs_ => Or.elim hs_ (fun e_ => (hk_.2) e_) (fun e_ => (hk_.1.2.2.2) e_))) (fun k_ hk_ => ⟨hk_.1.1.1, hk_.1.1.2.1, hk_.1.1.2.2.1, hk_.1.1.2.2.2⟩)); have n4_ := Aside0.mk (Kd.R_mono (ok' := fun k_ => some k_ ≠ (.slice Ao38 t725.length co38 : Value).ownBlock ∧ some k_ ≠ (.slice Ao59 t751.length co59 : Value).ownBlock) (Kd.R_keptB ((Kd.R_apart' HO_744001.out (Kd.R_typed HO_762002.out) (by decide))) hkp (fun k_ hk_ hs_ => Or.elim hs_ (fun e_ => (hk_.1.2) e_) (fun e_ => (hk_.2) e_))) (fun k_ hk_ => ⟨hk_.1.1.1, hk_.1.1.2⟩)); have n5_ := Aside0.mk (Kd.R_mono (ok' := fun k_ => some k_ ≠ (v732 : Value).ownBlock ∧ some k_ ≠ (v758 : Value).ownBlock ∧ some k_ ≠ (.slice Ao39 t728.length co39 : Value).ownBlock ∧ some k_ ≠ (.slice Ao60 t754.length co60 : Value).ownBlock) (Kd.R_keptB ((Kd.R_apart' HO_744002.out (Kd.R_typed HO_762001.out) (by decide))) hkp (fun k_ hk_ hs_ => Or.elim hs_ (fun e_ => (hk_.2) e_) (fun e_ => (hk_.1.2.2.2) e_))) (fun k_ hk_ => ⟨hk_.1.1.1, hk_.1.1.2.1, hk_.1.1.2.2.1, hk_.1.1.2.2.2⟩)); have n6_ := Aside0.mk (Kd.R_reok rfl hy0 (fun k_ e_ => HO_762001.out.1 k_ e_)); have n7_ := Aside0.mk (Kd.R_reok rfl hy1 (fun k_ e_ => HO_762002.out.1 k_ e_)); have n8_ := Aside0.mk (blk_kept BK709.out hkp (fun hs_ => Or.elim hs_ (fun e_ => (fun e_ => (Kd.R_ne HO_762001.out BK709.out (by decide)) e_) e_) (fun e_ => (fun e_ => (Kd.R_ne HO_762002.out BK709.out (by decide)) e_) e_))); have n9_ := Aside0.mk (blk_kept BK735.out hkp (fun hs_ => Or.elim hs_ (fun e_ => (fun e_ => (Kd.R_ne HO_762001.out BK735.out (by decide)) e_) e_) (fun e_ => (fun e_ => (Kd.R_ne HO_762002.out BK735.out (by decide)) e_) e_))); have n10_ := Aside0.mk (blk_kept BK743.out hkp (fun hs_ => Or.elim hs_ (fun e_ => (fun e_ => (Kd.R_ne HO_762001.out BK743.out (by decide)) e_) e_) (fun e_ => (fun e_ => (Kd.R_ne HO_762002.out BK743.out (by decide)) e_) e_))); have n11_ := Aside0.mk (blk_kept BK761.out hkp (fun hs_ => Or.elim hs_ (fun e_ => (fun e_ => (Kd.R_ne HO_762001.out BK761.out (by decide)) e_) e_) (fun e_ => (fun e_ => (Kd.R_ne HO_762002.out BK761.out (by decide)) e_) e_))); have n12_ := Aside0.mk (hb); clear HO_11; clear HO_17; clear HO_736001; clear HO_736002; clear HO_744001; clear HO_744002; clear HO_762001; clear HO_762002; clear BK709; clear BK735; clear BK743; clear BK761; clear HB; have HO_11 := n0_; have HO_17 := n1_; have HO_736001 := n2_; have HO_736002 := n3_; have HO_744001 := n4_; have HO_744002 := n5_; have HO_762001 := n6_; have HO_762002 := n7_; have BK709 := n8_; have BK735 := n9_; have BK743 := n10_; have BK761 := n11_; have HB := n12_; clear n0_ n1_ n2_ n3_ n4_ n5_ n6_ n7_ n8_ n9_ n10_ n11_ n12_; (try clear hb); (try clear hkp); (try clear hy0); (try clear hy1); obtain ⟨Ao192, co192, eo192⟩ := Kd.R_slice HO_17.out; subst eo192) | ((with_reducible refine gate_callee (f := 28) rfl ?_); refine goesL_ (some 126) rfl rfl Try.func28 (by kernel_rfl) rfl #[.slice Ao192 t757.length co192, .int .i64 t789] rfl qG ?_; (with_reducible refine (laws_markIntS.calls kj105 (fun k_ => some k_ = (.slice Ao192 t757.length co192 : Value).ownBlock) (.slice Ao192 t757.length co192) t757 t789 t792 t793 w _ ?side1 ?side2 A158.out).mono ?_); (case side1 => exact qB); (case side2 => exact Kd.R_tight rfl HO_17.out); rintro e w193 ⟨rfl, hy0, hb, hkp⟩; refine ⟨_, rfl, ?_⟩; have n0_ := Aside0.mk (Kd.R_mono (ok' := fun k_ => some k_ ≠ (.slice Ao192 t757.length co192 : Value).ownBlock ∧ some k_ ≠ (.slice Ao39 t728.length co39 : Value).ownBlock ∧ some k_ ≠ (.slice Ao47 t782.length co47 : Value).ownBlock ∧ some k_ ≠ (.slice Ao60 t754.length co60 : Value).ownBlock) (Kd.R_keptB (HO_11.out) hkp (fun k_ hk_ hs_ => (hk_.1) hs_)) (fun k_ hk_ => ⟨hk_.1.1, hk_.1.2.1, hk_.1.2.2.1, hk_.1.2.2.2⟩)); have n1_ := Aside0.mk (Kd.R_reok rfl hy0 (fun k_ e_ => HO_17.out.1 k_ e_)); have n2_ := Aside0.mk (Kd.R_mono (ok' := fun k_ => some k_ ≠ (.slice Ao46 t781.length co46 : Value).ownBlock ∧ some k_ ≠ (.slice Ao59 t751.length co59 : Value).ownBlock) (Kd.R_keptB ((Kd.R_apart' HO_736001.out (Kd.R_typed HO_17.out) (by decide))) hkp (fun k_ hk_ hs_ => (hk_.2) hs_)) (fun k_ hk_ => ⟨hk_.1.1.1, hk_.1.1.2⟩)); have n3_ := Aside0.mk (Kd.R_mono (ok' := fun k_ => some k_ ≠ (v732 : Value).ownBlock ∧ some k_ ≠ (.slice Ao192 t757.length co192 : Value).ownBlock ∧ some k_ ≠ (.slice Ao47 t782.length co47 : Value).ownBlock ∧ some k_ ≠ (.slice Ao60 t754.length co60 : Value).ownBlock) (Kd.R_keptB (HO_736002.out) hkp (fun k_ hk_ hs_ => (hk_.2.1) hs_)) (fun k_ hk_ => ⟨hk_.1.1, hk_.1.2.1, hk_.1.2.2.1, hk_.1.2.2.2⟩)); have n4_ := Aside0.mk (Kd.R_mono (ok' := fun k_ => some k_ ≠ (.slice Ao38 t725.length co38 : Value).ownBlock ∧ some k_ ≠ (.slice Ao59 t751.length co59 : Value).ownBlock) (Kd.R_keptB ((Kd.R_apart' HO_744001.out (Kd.R_typed HO_17.out) (by decide))) hkp (fun k_ hk_ hs_ => (hk_.2) hs_)) (fun k_ hk_ => ⟨hk_.1.1.1, hk_.1.1.2⟩)); have n5_ := Aside0.mk (Kd.R_mono (ok' := fun k_ => some k_ ≠ (v732 : Value).ownBlock ∧ some k_ ≠ (.slice Ao192 t757.length co192 : Value).ownBlock ∧ some k_ ≠ (.slice Ao39 t728.length co39 : Value).ownBlock ∧ some k_ ≠ (.slice Ao60 t754.length co60 : Value).ownBlock) (Kd.R_keptB (HO_744002.out) hkp (fun k_ hk_ hs_ => (hk_.2.1) hs_)) (fun k_ hk_ => ⟨hk_.1.1, hk_.1.2.1, hk_.1.2.2.1, hk_.1.2.2.2⟩)); have n6_ := Aside0.mk (Kd.R_mono (ok' := fun k_ => some k_ ≠ (.slice Ao38 t725.length co38 : Value).ownBlock ∧ some k_ ≠ (.slice Ao46 t781.length co46 : Value).ownBlock) (Kd.R_keptB ((Kd.R_apart' HO_762001.out (Kd.R_typed HO_17.out) (by decide))) hkp (fun k_ hk_ hs_ => (hk_.2) hs_)) (fun k_ hk_ => ⟨hk_.1.1.1, hk_.1.1.2⟩)); have n7_ := Aside0.mk (Kd.R_mono (ok' := fun k_ => some k_ ≠ (v732 : Value).ownBlock ∧ some k_ ≠ (.slice Ao192 t757.length co192 : Value).ownBlock ∧ some k_ ≠ (.slice Ao39 t728.length co39 : Value).ownBlock ∧ some k_ ≠ (.slice Ao47 t782.length co47 : Value).ownBlock) (Kd.R_keptB (HO_762002.out) hkp (fun k_ hk_ hs_ => (hk_.2.1) hs_)) (fun k_ hk_ => ⟨hk_.1.1, hk_.1.2.1, hk_.1.2.2.1, hk_.1.2.2.2⟩)); have n8_ := Aside0.mk (blk_kept BK709.out hkp (fun hs_ => (fun e_ => (Kd.R_ne HO_17.out BK709.out (by decide)) e_) hs_)); have n9_ := Aside0.mk (blk_kept BK735.out hkp (fun hs_ => (fun e_ => (Kd.R_ne HO_17.out BK735.out (by decide)) e_) hs_)); have n10_ := Aside0.mk (blk_kept BK743.out hkp (fun hs_ => (fun e_ => (Kd.R_ne HO_17.out BK743.out (by decide)) e_) hs_)); have n11_ := Aside0.mk (blk_kept BK761.out hkp (fun hs_ => (fun e_ => (Kd.R_ne HO_17.out BK761.out (by decide)) e_) hs_)); have n12_ := Aside0.mk (hb); clear HO_11; clear HO_17; clear HO_736001; clear HO_736002; clear HO_744001; clear HO_744002; clear HO_762001; clear HO_762002; clear BK709; clear BK735; clear BK743; clear BK761; clear HB; have HO_11 := n0_; have HO_17 := n1_; have HO_736001 := n2_; have HO_736002 := n3_; have HO_744001 := n4_; have HO_744002 := n5_; have HO_762001 := n6_; have HO_762002 := n7_; have BK709 := n8_; have BK735 := n9_; have BK743 := n10_; have BK761 := n11_; have HB := n12_; clear n0_ n1_ n2_ n3_ n4_ n5_ n6_ n7_ n8_ n9_ n10_ n11_ n12_; (try clear hb); (try clear hkp); (try clear hy0); have hcz194_0 : w193.cell? ⟨gb761, 0, none⟩ = some (.int .i64 t750) := (blk_cell BK761.out 0).trans rfl; have hcz194_1 : w193.cell? ⟨gb761, 1, none⟩ = some (.slice Ao59 t751.length co59) := (blk_cell BK761.out 1).trans rfl; have hcz194_2 : w193.cell? ⟨gb761, 2, none⟩ = some (.slice Ao60 t754.length co60) := (blk_cell BK761.out 2).trans rfl; have hfz194_0 := blk_frozen BK761.out 0; have hfz194_1 := blk_frozen BK761.out 1; have hfz194_2 := blk_frozen BK761.out 2) | ((with_reducible refine gate_callee (f := 32) rfl ?_); refine goesL_ (some 129) rfl rfl Try.func32 (by kernel_rfl) rfl #[.agg #[.int .i64 t750, .slice Ao59 t790.length co59, .slice Ao60 t791.length co60], .int .i64 1] rfl (by (try simp only [List.map_toArray, List.map_cons, List.map_nil]); first | done | (rw [show t790.length = t751.length from (Kd.R_reads' HO_762001.out).1.symm, show t791.length = t754.length from (Kd.R_reads' HO_762002.out).1.symm] <;> rfl) | rfl | (simp only [List.length_drop, List.length_take]; rfl)) ?_; (with_reducible refine (laws_heldCircuit.calls kj105 t750 _ _ t790 _ _ t791 1 t794 _ ?side1 ?side2 ?side3 ?side4 A159.out).mono ?_); (case side1 => repeat (first | exact (Kd.R_reads' HO_762001.out).2.2 | (with_reducible refine Kd.C_alloc ?_ _) | (with_reducible refine Kd.C_drewN ?_ _) | (with_reducible refine Kd.C_drew ?_))); (case side2 => rw [show t790.length = t751.length from (Kd.R_reads' HO_762001.out).1.symm]; exact (Kd.R_reads' HO_762001.out).2.1); (case side3 => repeat (first | exact (Kd.R_reads' HO_762002.out).2.2 | (with_reducible refine Kd.C_alloc ?_ _) | (with_reducible refine Kd.C_drewN ?_ _) | (with_reducible refine Kd.C_drew ?_))); (case side4 => rw [show t791.length = t754.length from (Kd.R_reads' HO_762002.out).1.symm]; exact (Kd.R_reads' HO_762002.out).2.1); rintro e w195 ⟨rfl, hb⟩; refine ⟨_, rfl, ?_⟩; have n0_ := Aside0.mk (Kd.R_below (qR HO_11.out) hb); have n1_ := Aside0.mk (Kd.R_below (qR HO_17.out) hb); have n2_ := Aside0.mk (Kd.R_below (qR HO_736001.out) hb); have n3_ := Aside0.mk (Kd.R_below (qR HO_736002.out) hb); have n4_ := Aside0.mk (Kd.R_below (qR HO_744001.out) hb); have n5_ := Aside0.mk (Kd.R_below (qR HO_744002.out) hb); have n6_ := Aside0.mk (Kd.R_below (qR HO_762001.out) hb); have n7_ := Aside0.mk (Kd.R_below (qR HO_762002.out) hb); have n8_ := Aside0.mk (blk_below (g := gb709) (o := .cells #[.int .i64 a0_0, .slice A0_1 l0_1.length c0_1, .slice A0_2 l0_2.length c0_2] 25 (0, 0)) (qK BK709.out) hb); have n9_ := Aside0.mk (blk_below (g := gb735) (o := .cells #[.int .i64 t724, .slice Ao38 t725.length co38, .slice Ao39 t728.length co39] 30 (0, 0)) (qK BK735.out) hb); have n10_ := Aside0.mk (blk_below (g := gb743) (o := .cells #[.int .i64 t736, .slice Ao46 t781.length co46, .slice Ao47 t782.length co47] 30 (0, 0)) (qK BK743.out) hb); have n11_ := Aside0.mk (blk_below (g := gb761) (o := .cells #[.int .i64 t750, .slice Ao59 t751.length co59, .slice Ao60 t754.length co60] 30 (0, 0)) (qK BK761.out) hb); have n12_ := Aside0.mk (below_step (qB) hb); clear HO_11; clear HO_17; clear HO_736001; clear HO_736002; clear HO_744001; clear HO_744002; clear HO_762001; clear HO_762002; clear BK709; clear BK735; clear BK743; clear BK761; clear HB; have HO_11 := n0_; have HO_17 := n1_; have HO_736001 := n2_; have HO_736002 := n3_; have HO_744001 := n4_; have HO_744002 := n5_; have HO_762001 := n6_; have HO_762002 := n7_; have BK709 := n8_; have BK735 := n9_; have BK743 := n10_; have BK761 := n11_; have HB := n12_; clear n0_ n1_ n2_ n3_ n4_ n5_ n6_ n7_ n8_ n9_ n10_ n11_ n12_; (try clear hb); (try clear hb2); (try clear hk); (try clear hi)) | ((with_reducible refine gate_callee (f := 29) rfl ?_); refine goesL_ (some 134) rfl rfl Try.func29 (by kernel_rfl) rfl #[.slice Ao192 t793.length co192, .int .i64 t794] rfl (by (try simp only [List.map_toArray, List.map_cons, List.map_nil]); first | done | (rw [show t793.length = t757.length from (Kd.R_reads' HO_17.out).1.symm] <;> rfl) | rfl | (simp only [List.length_drop, List.length_take]; rfl)) ?_; (with_reducible refine (laws_heldIntS.calls kj105 _ _ t793 t794 t795 _ ?side1 ?side2 A170.out).mono ?_); (case side1 => repeat (first | exact (Kd.R_reads' HO_17.out).2.2 | (with_reducible refine Kd.C_alloc ?_ _) | (with_reducible refine Kd.C_drewN ?_ _) | (with_reducible refine Kd.C_drew ?_))); (case side2 => rw [show t793.length = t757.length from (Kd.R_reads' HO_17.out).1.symm]; exact (Kd.R_reads' HO_17.out).2.1); rintro e w' ⟨rfl, ⟨nd, rfl⟩⟩; refine ⟨_, rfl, ?_⟩; (try (rw [drewN_self w195]; generalize hq_ : World.drewN w195 _ = w195; have n0_ : Aside0 (Kd.R (Kd.int .i64) 3 w195 w.heap.size (fun k_ => some k_ ≠ (.slice Ao192 t757.length co192 : Value).ownBlock ∧ some k_ ≠ (.slice Ao39 t728.length co39 : Value).ownBlock ∧ some k_ ≠ (.slice Ao47 t782.length co47 : Value).ownBlock ∧ some k_ ≠ (.slice Ao60 t754.length co60 : Value).ownBlock) v732 t731) := ⟨by rw [← hq_]; exact (qR HO_11.out)⟩; have n1_ : Aside0 (Kd.R (Kd.int .i64) 3 w195 w.heap.size (fun k_ => some k_ ≠ (v732 : Value).ownBlock ∧ some k_ ≠ (.slice Ao39 t728.length co39 : Value).ownBlock ∧ some k_ ≠ (.slice Ao47 t782.length co47 : Value).ownBlock ∧ some k_ ≠ (.slice Ao60 t754.length co60 : Value).ownBlock) (.slice Ao192 t757.length co192) t793) := ⟨by rw [← hq_]; exact (qR HO_17.out)⟩; have n2_ : Aside0 (Kd.R k59 59 w195 w.heap.size (fun k_ => some k_ ≠ (.slice Ao46 t781.length co46 : Value).ownBlock ∧ some k_ ≠ (.slice Ao59 t751.length co59 : Value).ownBlock) (.slice Ao38 t725.length co38) t725) := ⟨by rw [← hq_]; exact (qR HO_736001.out)⟩; have n3_ : Aside0 (Kd.R (Kd.int .i64) 3 w195 w.heap.size (fun k_ => some k_ ≠ (v732 : Value).ownBlock ∧ some k_ ≠ (.slice Ao192 t757.length co192 : Value).ownBlock ∧ some k_ ≠ (.slice Ao47 t782.length co47 : Value).ownBlock ∧ some k_ ≠ (.slice Ao60 t754.length co60 : Value).ownBlock) (.slice Ao39 t728.length co39) t728) := ⟨by rw [← hq_]; exact (qR HO_736002.out)⟩; have n4_ : Aside0 (Kd.R k59 59 w195 w.heap.size (fun k_ => some k_ ≠ (.slice Ao38 t725.length co38 : Value).ownBlock ∧ some k_ ≠ (.slice Ao59 t751.length co59 : Value).ownBlock) (.slice Ao46 t781.length co46) t781) := ⟨by rw [← hq_]; exact (qR HO_744001.out)⟩; have n5_ : Aside0 (Kd.R (Kd.int .i64) 3 w195 w.heap.size (fun k_ => some k_ ≠ (v732 : Value).ownBlock ∧ some k_ ≠ (.slice Ao192 t757.length co192 : Value).ownBlock ∧ some k_ ≠ (.slice Ao39 t728.length co39 : Value).ownBlock ∧ some k_ ≠ (.slice Ao60 t754.length co60 : Value).ownBlock) (.slice Ao47 t782.length co47) t782) := ⟨by rw [← hq_]; exact (qR HO_744002.out)⟩; have n6_ : Aside0 (Kd.R k59 59 w195 w.heap.size (fun k_ => some k_ ≠ (.slice Ao38 t725.length co38 : Value).ownBlock ∧ some k_ ≠ (.slice Ao46 t781.length co46 : Value).ownBlock) (.slice Ao59 t751.length co59) t790) := ⟨by rw [← hq_]; exact (qR HO_762001.out)⟩; have n7_ : Aside0 (Kd.R (Kd.int .i64) 3 w195 w.heap.size (fun k_ => some k_ ≠ (v732 : Value).ownBlock ∧ some k_ ≠ (.slice Ao192 t757.length co192 : Value).ownBlock ∧ some k_ ≠ (.slice Ao39 t728.length co39 : Value).ownBlock ∧ some k_ ≠ (.slice Ao47 t782.length co47 : Value).ownBlock) (.slice Ao60 t754.length co60) t791) := ⟨by rw [← hq_]; exact (qR HO_762002.out)⟩; have n8_ : Aside0 (w195.heap[gb709]? = some (.cells #[.int .i64 a0_0, .slice A0_1 l0_1.length c0_1, .slice A0_2 l0_2.length c0_2] 25 (0, 0))) := ⟨by rw [← hq_]; exact (qK BK709.out)⟩; have n9_ : Aside0 (w195.heap[gb735]? = some (.cells #[.int .i64 t724, .slice Ao38 t725.length co38, .slice Ao39 t728.length co39] 30 (0, 0))) := ⟨by rw [← hq_]; exact (qK BK735.out)⟩; have n10_ : Aside0 (w195.heap[gb743]? = some (.cells #[.int .i64 t736, .slice Ao46 t781.length co46, .slice Ao47 t782.length co47] 30 (0, 0))) := ⟨by rw [← hq_]; exact (qK BK743.out)⟩; have n11_ : Aside0 (w195.heap[gb761]? = some (.cells #[.int .i64 t750, .slice Ao59 t751.length co59, .slice Ao60 t754.length co60] 30 (0, 0))) := ⟨by rw [← hq_]; exact (qK BK761.out)⟩; have n12_ : Aside0 (Below w.heap.size w w195) := ⟨by rw [← hq_]; exact (qB)⟩; clear HO_11 HO_17 HO_736001 HO_736002 HO_744001 HO_744002 HO_762001 HO_762002 BK709 BK735 BK743 BK761 HB hq_; have HO_11 := n0_; have HO_17 := n1_; have HO_736001 := n2_; have HO_736002 := n3_; have HO_744001 := n4_; have HO_744002 := n5_; have HO_762001 := n6_; have HO_762002 := n7_; have BK709 := n8_; have BK735 := n9_; have BK743 := n10_; have BK761 := n11_; have HB := n12_; clear n0_ n1_ n2_ n3_ n4_ n5_ n6_ n7_ n8_ n9_ n10_ n11_ n12_)); have hnb196 := NB709_735.out; have hnc196 := NB735_709.out; have hnb197 := NB709_743.out; have hnc197 := NB743_709.out; have hcz198_0 : w195.cell? ⟨gb709, 0, none⟩ = some (.int .i64 a0_0) := (blk_cell BK709.out 0).trans rfl; have hcz198_1 : w195.cell? ⟨gb709, 1, none⟩ = some (.slice A0_1 l0_1.length c0_1) := (blk_cell BK709.out 1).trans rfl; have hcz198_2 : w195.cell? ⟨gb709, 2, none⟩ = some (.slice A0_2 l0_2.length c0_2) := (blk_cell BK709.out 2).trans rfl; have hfz198_0 := blk_frozen BK709.out 0; have hfz198_1 := blk_frozen BK709.out 1; have hfz198_2 := blk_frozen BK709.out 2) | ((with_reducible refine gate_callee (f := 13) rfl ?_); refine goesL_ (some 142) rfl rfl Try.func13 (by kernel_rfl) rfl #[.agg #[.int .i64 a0_0, .slice A0_1 l0_1.length c0_1, .slice A0_2 l0_2.length c0_2]] rfl qG ?_; (with_reducible refine (laws_toCircuit.calls kj105 a0_0 _ _ l0_1 _ _ l0_2 t796 t797 t800 _ ?side1 ?side2 ?side3 ?side4 A182.out).mono ?_); (case side1 => exact qC (Kd.C_below HR0_1.out HB.out)); (case side2 => exact HC0_1.out); (case side3 => exact qC (Kd.C_below HR0_2.out HB.out)); (case side4 => exact HC0_2.out); rintro e w199 ⟨v798, v801, rfl, ho0, ho1, hb⟩; refine ⟨_, rfl, ?_⟩; have n0_ := Aside0.mk (Kd.R_elder' (qR HO_11.out) (Kd.R_base ho1) hb); have n1_ := Aside0.mk (Kd.R_elder' (qR HO_17.out) (Kd.R_base ho1) hb); have n2_ := Aside0.mk (Kd.R_elder' (qR HO_736001.out) (Kd.R_base ho0) hb); have n3_ := Aside0.mk (Kd.R_elder' (qR HO_736002.out) (Kd.R_base ho1) hb); have n4_ := Aside0.mk (Kd.R_elder' (qR HO_744001.out) (Kd.R_base ho0) hb); have n5_ := Aside0.mk (Kd.R_elder' (qR HO_744002.out) (Kd.R_base ho1) hb); have n6_ := Aside0.mk (Kd.R_elder' (qR HO_762001.out) (Kd.R_base ho0) hb); have n7_ := Aside0.mk (Kd.R_elder' (qR HO_762002.out) (Kd.R_base ho1) hb); have n8_ := Aside0.mk (Kd.R_lower (Kd.R_new' (Kd.R_new' (Kd.R_new' ho0 (Kd.R_lt (qR HO_736001.out))) (Kd.R_lt (qR HO_744001.out))) (Kd.R_lt (qR HO_762001.out))) (below_size (qB))); have n9_ := Aside0.mk (Kd.R_lower (Kd.R_new' (Kd.R_new' (Kd.R_new' (Kd.R_new' (Kd.R_new' ho1 (Kd.R_lt (qR HO_11.out))) (Kd.R_lt (qR HO_17.out))) (Kd.R_lt (qR HO_736002.out))) (Kd.R_lt (qR HO_744002.out))) (Kd.R_lt (qR HO_762002.out))) (below_size (qB))); have n10_ := Aside0.mk (blk_below (g := gb709) (o := .cells #[.int .i64 a0_0, .slice A0_1 l0_1.length c0_1, .slice A0_2 l0_2.length c0_2] 25 (0, 0)) (qK BK709.out) hb); have n11_ := Aside0.mk (blk_below (g := gb735) (o := .cells #[.int .i64 t724, .slice Ao38 t725.length co38, .slice Ao39 t728.length co39] 30 (0, 0)) (qK BK735.out) hb); have n12_ := Aside0.mk (blk_below (g := gb743) (o := .cells #[.int .i64 t736, .slice Ao46 t781.length co46, .slice Ao47 t782.length co47] 30 (0, 0)) (qK BK743.out) hb); have n13_ := Aside0.mk (blk_below (g := gb761) (o := .cells #[.int .i64 t750, .slice Ao59 t751.length co59, .slice Ao60 t754.length co60] 30 (0, 0)) (qK BK761.out) hb); have n14_ := Aside0.mk (below_step (qB) hb); clear HO_11; clear HO_17; clear HO_736001; clear HO_736002; clear HO_744001; clear HO_744002; clear HO_762001; clear HO_762002; clear BK709; clear BK735; clear BK743; clear BK761; clear HB; have HO_11 := n0_; have HO_17 := n1_; have HO_736001 := n2_; have HO_736002 := n3_; have HO_744001 := n4_; have HO_744002 := n5_; have HO_762001 := n6_; have HO_762002 := n7_; have HO799 := n8_; have HO802 := n9_; have BK709 := n10_; have BK735 := n11_; have BK743 := n12_; have BK761 := n13_; have HB := n14_; clear n0_ n1_ n2_ n3_ n4_ n5_ n6_ n7_ n8_ n9_ n10_ n11_ n12_ n13_ n14_; (try clear hb); (try clear hb2); (try clear hk); (try clear hi); (try clear ho0); (try clear ho1)) | ((with_reducible refine gate_callee (f := 34) rfl ?_); refine goesL_ (some 144) rfl rfl Try.func34 (by kernel_rfl) rfl #[.slice A1 l1.length c1] rfl qG ?_; (with_reducible refine (laws_toIntS.calls kj105 _ _ l1 t803 _ ?side1 ?side2 A183.out).mono ?_); (case side1 => exact qC (Kd.C_below HR1.out HB.out)); (case side2 => exact HC1.out); rintro e w200 ⟨v804, rfl, ho0, hb⟩; refine ⟨_, rfl, ?_⟩; have n0_ := Aside0.mk (Kd.R_elder' (qR HO_11.out) (Kd.R_base ho0) hb); have n1_ := Aside0.mk (Kd.R_elder' (qR HO_17.out) (Kd.R_base ho0) hb); have n2_ := Aside0.mk (Kd.R_below (qR HO_736001.out) hb); have n3_ := Aside0.mk (Kd.R_elder' (qR HO_736002.out) (Kd.R_base ho0) hb); have n4_ := Aside0.mk (Kd.R_below (qR HO_744001.out) hb); have n5_ := Aside0.mk (Kd.R_elder' (qR HO_744002.out) (Kd.R_base ho0) hb); have n6_ := Aside0.mk (Kd.R_below (qR HO_762001.out) hb); have n7_ := Aside0.mk (Kd.R_elder' (qR HO_762002.out) (Kd.R_base ho0) hb); have n8_ := Aside0.mk (Kd.R_below (qR HO799.out) hb); have n9_ := Aside0.mk (Kd.R_elder' (qR HO802.out) (Kd.R_base ho0) hb); have n10_ := Aside0.mk (Kd.R_lower (Kd.R_new' (Kd.R_new' (Kd.R_new' (Kd.R_new' (Kd.R_new' (Kd.R_new' ho0 (Kd.R_lt (qR HO_11.out))) (Kd.R_lt (qR HO_17.out))) (Kd.R_lt (qR HO_736002.out))) (Kd.R_lt (qR HO_744002.out))) (Kd.R_lt (qR HO_762002.out))) (Kd.R_lt (qR HO802.out))) (below_size (qB))); have n11_ := Aside0.mk (blk_below (g := gb709) (o := .cells #[.int .i64 a0_0, .slice A0_1 l0_1.length c0_1, .slice A0_2 l0_2.length c0_2] 25 (0, 0)) (qK BK709.out) hb); have n12_ := Aside0.mk (blk_below (g := gb735) (o := .cells #[.int .i64 t724, .slice Ao38 t725.length co38, .slice Ao39 t728.length co39] 30 (0, 0)) (qK BK735.out) hb); have n13_ := Aside0.mk (blk_below (g := gb743) (o := .cells #[.int .i64 t736, .slice Ao46 t781.length co46, .slice Ao47 t782.length co47] 30 (0, 0)) (qK BK743.out) hb); have n14_ := Aside0.mk (blk_below (g := gb761) (o := .cells #[.int .i64 t750, .slice Ao59 t751.length co59, .slice Ao60 t754.length co60] 30 (0, 0)) (qK BK761.out) hb); have n15_ := Aside0.mk (below_step (qB) hb); clear HO_11; clear HO_17; clear HO_736001; clear HO_736002; clear HO_744001; clear HO_744002; clear HO_762001; clear HO_762002; clear HO799; clear HO802; clear BK709; clear BK735; clear BK743; clear BK761; clear HB; have HO_11 := n0_; have HO_17 := n1_; have HO_736001 := n2_; have HO_736002 := n3_; have HO_744001 := n4_; have HO_744002 := n5_; have HO_762001 := n6_; have HO_762002 := n7_; have HO799 := n8_; have HO802 := n9_; have HO805 := n10_; have BK709 := n11_; have BK735 := n12_; have BK743 := n13_; have BK761 := n14_; have HB := n15_; clear n0_ n1_ n2_ n3_ n4_ n5_ n6_ n7_ n8_ n9_ n10_ n11_ n12_ n13_ n14_ n15_; (try clear hb); (try clear hb2); (try clear hk); (try clear hi); (try clear ho0)) | ((with_reducible refine gate_callee (f := 34) rfl ?_); refine goesL_ (some 146) rfl rfl Try.func34 (by kernel_rfl) rfl #[.slice A2 l2.length c2] rfl qG ?_; (with_reducible refine (laws_toIntS.calls kj105 _ _ l2 t806 _ ?side1 ?side2 A184.out).mono ?_); (case side1 => exact qC (Kd.C_below HR2.out HB.out)); (case side2 => exact HC2.out); rintro e w201 ⟨v807, rfl, ho0, hb⟩; refine ⟨_, rfl, ?_⟩; have n0_ := Aside0.mk (Kd.R_elder' (qR HO_11.out) (Kd.R_base ho0) hb); have n1_ := Aside0.mk (Kd.R_elder' (qR HO_17.out) (Kd.R_base ho0) hb); have n2_ := Aside0.mk (Kd.R_below (qR HO_736001.out) hb); have n3_ := Aside0.mk (Kd.R_elder' (qR HO_736002.out) (Kd.R_base ho0) hb); have n4_ := Aside0.mk (Kd.R_below (qR HO_744001.out) hb); have n5_ := Aside0.mk (Kd.R_elder' (qR HO_744002.out) (Kd.R_base ho0) hb); have n6_ := Aside0.mk (Kd.R_below (qR HO_762001.out) hb); have n7_ := Aside0.mk (Kd.R_elder' (qR HO_762002.out) (Kd.R_base ho0) hb); have n8_ := Aside0.mk (Kd.R_below (qR HO799.out) hb); have n9_ := Aside0.mk (Kd.R_elder' (qR HO802.out) (Kd.R_base ho0) hb); have n10_ := Aside0.mk (Kd.R_elder' (qR HO805.out) (Kd.R_base ho0) hb); have n11_ := Aside0.mk (Kd.R_lower (Kd.R_new' (Kd.R_new' (Kd.R_new' (Kd.R_new' (Kd.R_new' (Kd.R_new' (Kd.R_new' ho0 (Kd.R_lt (qR HO_11.out))) (Kd.R_lt (qR HO_17.out))) (Kd.R_lt (qR HO_736002.out))) (Kd.R_lt (qR HO_744002.out))) (Kd.R_lt (qR HO_762002.out))) (Kd.R_lt (qR HO802.out))) (Kd.R_lt (qR HO805.out))) (below_size (qB))); have n12_ := Aside0.mk (blk_below (g := gb709) (o := .cells #[.int .i64 a0_0, .slice A0_1 l0_1.length c0_1, .slice A0_2 l0_2.length c0_2] 25 (0, 0)) (qK BK709.out) hb); have n13_ := Aside0.mk (blk_below (g := gb735) (o := .cells #[.int .i64 t724, .slice Ao38 t725.length co38, .slice Ao39 t728.length co39] 30 (0, 0)) (qK BK735.out) hb); have n14_ := Aside0.mk (blk_below (g := gb743) (o := .cells #[.int .i64 t736, .slice Ao46 t781.length co46, .slice Ao47 t782.length co47] 30 (0, 0)) (qK BK743.out) hb); have n15_ := Aside0.mk (blk_below (g := gb761) (o := .cells #[.int .i64 t750, .slice Ao59 t751.length co59, .slice Ao60 t754.length co60] 30 (0, 0)) (qK BK761.out) hb); have n16_ := Aside0.mk (below_step (qB) hb); clear HO_11; clear HO_17; clear HO_736001; clear HO_736002; clear HO_744001; clear HO_744002; clear HO_762001; clear HO_762002; clear HO799; clear HO802; clear HO805; clear BK709; clear BK735; clear BK743; clear BK761; clear HB; have HO_11 := n0_; have HO_17 := n1_; have HO_736001 := n2_; have HO_736002 := n3_; have HO_744001 := n4_; have HO_744002 := n5_; have HO_762001 := n6_; have HO_762002 := n7_; have HO799 := n8_; have HO802 := n9_; have HO805 := n10_; have HO808 := n11_; have BK709 := n12_; have BK735 := n13_; have BK743 := n14_; have BK761 := n15_; have HB := n16_; clear n0_ n1_ n2_ n3_ n4_ n5_ n6_ n7_ n8_ n9_ n10_ n11_ n12_ n13_ n14_ n15_ n16_; (try clear hb); (try clear hb2); (try clear hk); (try clear hi); (try clear ho0); obtain ⟨Ao202, co202, eo202⟩ := Kd.R_slice HO799.out; subst eo202; obtain ⟨Ao203, co203, eo203⟩ := Kd.R_slice HO802.out; subst eo203; obtain ⟨Ao204, co204, eo204⟩ := Kd.R_slice HO805.out; subst eo204; obtain ⟨Ao205, co205, eo205⟩ := Kd.R_slice HO808.out; subst eo205) | ((with_reducible refine gate_callee (f := 35) rfl ?_); refine goesL_ (some 148) rfl rfl Try.func35 (by kernel_rfl) rfl #[.agg #[.int .i64 t796, .slice Ao202 t797.length co202, .slice Ao203 t800.length co203], .slice Ao204 t803.length co204, .slice Ao205 t806.length co205, .int .i64 a3] rfl qG ?_; (with_reducible refine (impl_AddGates.calls kj105 t796 _ _ t797 _ _ t800 _ _ t803 _ _ t806 a3 t809 t810 t813 t816 t819 _ ?side1 ?side2 ?side3 ?side4 ?side5 ?side6 ?side7 ?side8 A185.out).mono ?_); (case side1 => repeat (first | exact (Kd.R_reads' HO799.out).2.2 | (with_reducible refine Kd.C_alloc ?_ _) | (with_reducible refine Kd.C_drewN ?_ _) | (with_reducible refine Kd.C_drew ?_))); (case side2 => exact (Kd.R_reads' HO799.out).2.1); (case side3 => repeat (first | exact (Kd.R_reads' HO802.out).2.2 | (with_reducible refine Kd.C_alloc ?_ _) | (with_reducible refine Kd.C_drewN ?_ _) | (with_reducible refine Kd.C_drew ?_))); (case side4 => exact (Kd.R_reads' HO802.out).2.1); (case side5 => repeat (first | exact (Kd.R_reads' HO805.out).2.2 | (with_reducible refine Kd.C_alloc ?_ _) | (with_reducible refine Kd.C_drewN ?_ _) | (with_reducible refine Kd.C_drew ?_))); (case side6 => exact (Kd.R_reads' HO805.out).2.1); (case side7 => repeat (first | exact (Kd.R_reads' HO808.out).2.2 | (with_reducible refine Kd.C_alloc ?_ _) | (with_reducible refine Kd.C_drewN ?_ _) | (with_reducible refine Kd.C_drew ?_))); (case side8 => exact (Kd.R_reads' HO808.out).2.1); rintro e w206 ⟨v811, v814, v817, rfl, ho0, ho1, ho2, hb⟩; refine ⟨_, rfl, ?_⟩; have n0_ := Aside0.mk (Kd.R_mono (Kd.R_told (Kd.R_told (Kd.R_old (qR HO_11.out) hb) (Kd.R_base ho1)) (Kd.R_base ho2)) (fun _ h_ => h_.1)); have n1_ := Aside0.mk (Kd.R_mono (Kd.R_told (Kd.R_told (Kd.R_old (qR HO_17.out) hb) (Kd.R_base ho1)) (Kd.R_base ho2)) (fun _ h_ => h_.1)); have n2_ := Aside0.mk (Kd.R_elder' (qR HO_736001.out) (Kd.R_base ho0) hb); have n3_ := Aside0.mk (Kd.R_mono (Kd.R_told (Kd.R_told (Kd.R_old (qR HO_736002.out) hb) (Kd.R_base ho1)) (Kd.R_base ho2)) (fun _ h_ => h_.1)); have n4_ := Aside0.mk (Kd.R_elder' (qR HO_744001.out) (Kd.R_base ho0) hb); have n5_ := Aside0.mk (Kd.R_mono (Kd.R_told (Kd.R_told (Kd.R_old (qR HO_744002.out) hb) (Kd.R_base ho1)) (Kd.R_base ho2)) (fun _ h_ => h_.1)); have n6_ := Aside0.mk (Kd.R_elder' (qR HO_762001.out) (Kd.R_base ho0) hb); have n7_ := Aside0.mk (Kd.R_mono (Kd.R_told (Kd.R_told (Kd.R_old (qR HO_762002.out) hb) (Kd.R_base ho1)) (Kd.R_base ho2)) (fun _ h_ => h_.1)); have n8_ := Aside0.mk (Kd.R_elder' (qR HO799.out) (Kd.R_base ho0) hb); have n9_ := Aside0.mk (Kd.R_mono (Kd.R_told (Kd.R_told (Kd.R_old (qR HO802.out) hb) (Kd.R_base ho1)) (Kd.R_base ho2)) (fun _ h_ => h_.1)); have n10_ := Aside0.mk (Kd.R_mono (Kd.R_told (Kd.R_told (Kd.R_old (qR HO805.out) hb) (Kd.R_base ho1)) (Kd.R_base ho2)) (fun _ h_ => h_.1)); have n11_ := Aside0.mk (Kd.R_mono (Kd.R_told (Kd.R_told (Kd.R_old (qR HO808.out) hb) (Kd.R_base ho1)) (Kd.R_base ho2)) (fun _ h_ => h_.1)); have n12_ := Aside0.mk (Kd.R_lower (Kd.R_new' (Kd.R_new' (Kd.R_new' (Kd.R_new' ho0 (Kd.R_lt (qR HO_736001.out))) (Kd.R_lt (qR HO_744001.out))) (Kd.R_lt (qR HO_762001.out))) (Kd.R_lt (qR HO799.out))) (below_size (qB))); have n13_ := Aside0.mk (Kd.R_lower (Kd.R_new' (Kd.R_new' (Kd.R_new' (Kd.R_new' (Kd.R_new' (Kd.R_new' (Kd.R_new' (Kd.R_new' ho1 (Kd.R_lt (qR HO_11.out))) (Kd.R_lt (qR HO_17.out))) (Kd.R_lt (qR HO_736002.out))) (Kd.R_lt (qR HO_744002.out))) (Kd.R_lt (qR HO_762002.out))) (Kd.R_lt (qR HO802.out))) (Kd.R_lt (qR HO805.out))) (Kd.R_lt (qR HO808.out))) (below_size (qB))); have n14_ := Aside0.mk (Kd.R_lower (Kd.R_new' (Kd.R_new' (Kd.R_new' (Kd.R_new' (Kd.R_new' (Kd.R_new' (Kd.R_new' (Kd.R_new' ho2 (Kd.R_lt (qR HO_11.out))) (Kd.R_lt (qR HO_17.out))) (Kd.R_lt (qR HO_736002.out))) (Kd.R_lt (qR HO_744002.out))) (Kd.R_lt (qR HO_762002.out))) (Kd.R_lt (qR HO802.out))) (Kd.R_lt (qR HO805.out))) (Kd.R_lt (qR HO808.out))) (below_size (qB))); have n15_ := Aside0.mk (blk_below (g := gb709) (o := .cells #[.int .i64 a0_0, .slice A0_1 l0_1.length c0_1, .slice A0_2 l0_2.length c0_2] 25 (0, 0)) (qK BK709.out) hb); have n16_ := Aside0.mk (blk_below (g := gb735) (o := .cells #[.int .i64 t724, .slice Ao38 t725.length co38, .slice Ao39 t728.length co39] 30 (0, 0)) (qK BK735.out) hb); have n17_ := Aside0.mk (blk_below (g := gb743) (o := .cells #[.int .i64 t736, .slice Ao46 t781.length co46, .slice Ao47 t782.length co47] 30 (0, 0)) (qK BK743.out) hb); have n18_ := Aside0.mk (blk_below (g := gb761) (o := .cells #[.int .i64 t750, .slice Ao59 t751.length co59, .slice Ao60 t754.length co60] 30 (0, 0)) (qK BK761.out) hb); have n19_ := Aside0.mk (below_step (qB) hb); clear HO_11; clear HO_17; clear HO_736001; clear HO_736002; clear HO_744001; clear HO_744002; clear HO_762001; clear HO_762002; clear HO799; clear HO802; clear HO805; clear HO808; clear BK709; clear BK735; clear BK743; clear BK761; clear HB; have HO_11 := n0_; have HO_17 := n1_; have HO_736001 := n2_; have HO_736002 := n3_; have HO_744001 := n4_; have HO_744002 := n5_; have HO_762001 := n6_; have HO_762002 := n7_; have HO799 := n8_; have HO802 := n9_; have HO805 := n10_; have HO808 := n11_; have HO812 := n12_; have HO815 := n13_; have HO818 := n14_; have BK709 := n15_; have BK735 := n16_; have BK743 := n17_; have BK761 := n18_; have HB := n19_; clear n0_ n1_ n2_ n3_ n4_ n5_ n6_ n7_ n8_ n9_ n10_ n11_ n12_ n13_ n14_ n15_ n16_ n17_ n18_ n19_; (try clear hb); (try clear hb2); (try clear hk); (try clear hi); (try clear ho0); (try clear ho1); (try clear ho2)) | ((with_reducible refine gate_dst (N := 22) rfl ?_); refine box_event ?hg (N := 22) ?hd (cs := #[.int .i64 0, .slice none 0 0, .slice none 0 0]) (t := 30) ?hr ?_; (case hd => rfl); (case hg => rfl); (case hr => first | (go_simp; done) | (go_simp; rfl)); intro gb820 hg w207 hbox hb; have n0_ := Aside0.mk (Kd.R_below (qR HO_11.out) hb); have n1_ := Aside0.mk (Kd.R_below (qR HO_17.out) hb); have n2_ := Aside0.mk (Kd.R_below (qR HO_736001.out) hb); have n3_ := Aside0.mk (Kd.R_below (qR HO_736002.out) hb); have n4_ := Aside0.mk (Kd.R_below (qR HO_744001.out) hb); have n5_ := Aside0.mk (Kd.R_below (qR HO_744002.out) hb); have n6_ := Aside0.mk (Kd.R_below (qR HO_762001.out) hb); have n7_ := Aside0.mk (Kd.R_below (qR HO_762002.out) hb); have n8_ := Aside0.mk (Kd.R_below (qR HO799.out) hb); have n9_ := Aside0.mk (Kd.R_below (qR HO802.out) hb); have n10_ := Aside0.mk (Kd.R_below (qR HO805.out) hb); have n11_ := Aside0.mk (Kd.R_below (qR HO808.out) hb); have n12_ := Aside0.mk (Kd.R_below (qR HO812.out) hb); have n13_ := Aside0.mk (Kd.R_below (qR HO815.out) hb); have n14_ := Aside0.mk (Kd.R_below (qR HO818.out) hb); have n15_ := Aside0.mk (blk_below (g := gb709) (o := .cells #[.int .i64 a0_0, .slice A0_1 l0_1.length c0_1, .slice A0_2 l0_2.length c0_2] 25 (0, 0)) (qK BK709.out) hb); have n16_ := Aside0.mk (blk_below (g := gb735) (o := .cells #[.int .i64 t724, .slice Ao38 t725.length co38, .slice Ao39 t728.length co39] 30 (0, 0)) (qK BK735.out) hb); have n17_ := Aside0.mk (blk_below (g := gb743) (o := .cells #[.int .i64 t736, .slice Ao46 t781.length co46, .slice Ao47 t782.length co47] 30 (0, 0)) (qK BK743.out) hb); have n18_ := Aside0.mk (blk_below (g := gb761) (o := .cells #[.int .i64 t750, .slice Ao59 t751.length co59, .slice Ao60 t754.length co60] 30 (0, 0)) (qK BK761.out) hb); have n19_ := Aside0.mk (below_step (qB) hb); have n20_ := Aside0.mk (hbox); have n21_ := Aside0.mk ((by rw [hg]; exact (below_size (qB)) : w.heap.size ≤ gb820)); have n22_ := Aside0.mk ((by rw [hg]; exact (below_size (qB)) : w.heap.size ≤ gb820)); have n23_ := Aside0.mk ((by rw [hg]; exact Nat.ne_of_lt (blk_lt (g := gb709) (o := .cells #[.int .i64 a0_0, .slice A0_1 l0_1.length c0_1, .slice A0_2 l0_2.length c0_2] 25 (0, 0)) (qK BK709.out)) : gb709 ≠ gb820)); have n24_ := Aside0.mk ((by rw [hg]; exact Nat.ne_of_gt (blk_lt (g := gb709) (o := .cells #[.int .i64 a0_0, .slice A0_1 l0_1.length c0_1, .slice A0_2 l0_2.length c0_2] 25 (0, 0)) (qK BK709.out)) : gb820 ≠ gb709)); have n25_ := Aside0.mk ((by rw [hg]; exact Nat.ne_of_lt (blk_lt (g := gb735) (o := .cells #[.int .i64 t724, .slice Ao38 t725.length co38, .slice Ao39 t728.length co39] 30 (0, 0)) (qK BK735.out)) : gb735 ≠ gb820)); have n26_ := Aside0.mk ((by rw [hg]; exact Nat.ne_of_gt (blk_lt (g := gb735) (o := .cells #[.int .i64 t724, .slice Ao38 t725.length co38, .slice Ao39 t728.length co39] 30 (0, 0)) (qK BK735.out)) : gb820 ≠ gb735)); have n27_ := Aside0.mk ((by rw [hg]; exact Nat.ne_of_lt (blk_lt (g := gb743) (o := .cells #[.int .i64 t736, .slice Ao46 t781.length co46, .slice Ao47 t782.length co47] 30 (0, 0)) (qK BK743.out)) : gb743 ≠ gb820)); have n28_ := Aside0.mk ((by rw [hg]; exact Nat.ne_of_gt (blk_lt (g := gb743) (o := .cells #[.int .i64 t736, .slice Ao46 t781.length co46, .slice Ao47 t782.length co47] 30 (0, 0)) (qK BK743.out)) : gb820 ≠ gb743)); have n29_ := Aside0.mk ((by rw [hg]; exact Nat.ne_of_lt (blk_lt (g := gb761) (o := .cells #[.int .i64 t750, .slice Ao59 t751.length co59, .slice Ao60 t754.length co60] 30 (0, 0)) (qK BK761.out)) : gb761 ≠ gb820)); have n30_ := Aside0.mk ((by rw [hg]; exact Nat.ne_of_gt (blk_lt (g := gb761) (o := .cells #[.int .i64 t750, .slice Ao59 t751.length co59, .slice Ao60 t754.length co60] 30 (0, 0)) (qK BK761.out)) : gb820 ≠ gb761)); clear HO_11; clear HO_17; clear HO_736001; clear HO_736002; clear HO_744001; clear HO_744002; clear HO_762001; clear HO_762002; clear HO799; clear HO802; clear HO805; clear HO808; clear HO812; clear HO815; clear HO818; clear BK709; clear BK735; clear BK743; clear BK761; clear HB; have HO_11 := n0_; have HO_17 := n1_; have HO_736001 := n2_; have HO_736002 := n3_; have HO_744001 := n4_; have HO_744002 := n5_; have HO_762001 := n6_; have HO_762002 := n7_; have HO799 := n8_; have HO802 := n9_; have HO805 := n10_; have HO808 := n11_; have HO812 := n12_; have HO815 := n13_; have HO818 := n14_; have BK709 := n15_; have BK735 := n16_; have BK743 := n17_; have BK761 := n18_; have HB := n19_; have BK820 := n20_; have GW820 := n21_; have GE820 := n22_; have NB709_820 := n23_; have NB820_709 := n24_; have NB735_820 := n25_; have NB820_735 := n26_; have NB743_820 := n27_; have NB820_743 := n28_; have NB761_820 := n29_; have NB820_761 := n30_; clear n0_ n1_ n2_ n3_ n4_ n5_ n6_ n7_ n8_ n9_ n10_ n11_ n12_ n13_ n14_ n15_ n16_ n17_ n18_ n19_ n20_ n21_ n22_ n23_ n24_ n25_ n26_ n27_ n28_ n29_ n30_; clear hb hbox hg; have hnb208 := NB820_709.out; have hnc208 := NB709_820.out; have hnb209 := NB820_735.out; have hnc209 := NB735_820.out; have hnb210 := NB820_743.out; have hnc210 := NB743_820.out; have hnb211 := NB820_761.out; have hnc211 := NB761_820.out; have hcz212_0 : w207.cell? ⟨gb820, 0, none⟩ = some (.int .i64 0) := (blk_cell BK820.out 0).trans rfl; have hcz212_1 : w207.cell? ⟨gb820, 1, none⟩ = some (.slice none 0 0) := (blk_cell BK820.out 1).trans rfl; have hcz212_2 : w207.cell? ⟨gb820, 2, none⟩ = some (.slice none 0 0) := (blk_cell BK820.out 2).trans rfl; have hfz212_0 := blk_frozen BK820.out 0; have hfz212_1 := blk_frozen BK820.out 1; have hfz212_2 := blk_frozen BK820.out 2; obtain ⟨Ao213, co213, eo213⟩ := Kd.R_slice HO812.out; subst eo213; obtain ⟨Ao214, co214, eo214⟩ := Kd.R_slice HO815.out; subst eo214))
                (try simp only [Act.put, List.setIfInBounds_toArray, List.set_cons_zero, List.set_cons_succ])
                go_cut [166] (fun v166 wc => ∃ (kq : Nat) (x166_185 : Bool), v166 = .bool x166_185 ∧ Aside0 (laws_FnExactAddGates.j2 kq t793 t792 x166_185 t750 t790 t791 = some true) ∧ Aside0 (kq ≤ kj105) ∧ Aside0 (Kd.R (Kd.int .i64) 3 wc w.heap.size (fun k_ => some k_ ≠ ((.slice Ao39 t728.length co39) : Value).ownBlock ∧ some k_ ≠ ((.slice Ao47 t782.length co47) : Value).ownBlock ∧ some k_ ≠ ((.slice Ao60 t754.length co60) : Value).ownBlock ∧ some k_ ≠ ((.slice Ao214 t813.length co214) : Value).ownBlock) (.slice Ao192 t757.length co192) t793) ∧ Aside0 (Kd.R k59 59 wc w.heap.size (fun k_ => some k_ ≠ ((.slice Ao46 t781.length co46) : Value).ownBlock ∧ some k_ ≠ ((.slice Ao59 t751.length co59) : Value).ownBlock ∧ some k_ ≠ ((.slice Ao213 t810.length co213) : Value).ownBlock) (.slice Ao38 t725.length co38) t725) ∧ Aside0 (Kd.R (Kd.int .i64) 3 wc w.heap.size (fun k_ => some k_ ≠ ((.slice Ao192 t757.length co192) : Value).ownBlock ∧ some k_ ≠ ((.slice Ao47 t782.length co47) : Value).ownBlock ∧ some k_ ≠ ((.slice Ao60 t754.length co60) : Value).ownBlock ∧ some k_ ≠ ((.slice Ao214 t813.length co214) : Value).ownBlock) (.slice Ao39 t728.length co39) t728) ∧ Aside0 (Kd.R k59 59 wc w.heap.size (fun k_ => some k_ ≠ ((.slice Ao38 t725.length co38) : Value).ownBlock ∧ some k_ ≠ ((.slice Ao59 t751.length co59) : Value).ownBlock ∧ some k_ ≠ ((.slice Ao213 t810.length co213) : Value).ownBlock) (.slice Ao46 t781.length co46) t781) ∧ Aside0 (Kd.R (Kd.int .i64) 3 wc w.heap.size (fun k_ => some k_ ≠ ((.slice Ao192 t757.length co192) : Value).ownBlock ∧ some k_ ≠ ((.slice Ao39 t728.length co39) : Value).ownBlock ∧ some k_ ≠ ((.slice Ao60 t754.length co60) : Value).ownBlock ∧ some k_ ≠ ((.slice Ao214 t813.length co214) : Value).ownBlock) (.slice Ao47 t782.length co47) t782) ∧ Aside0 (Kd.R k59 59 wc w.heap.size (fun k_ => some k_ ≠ ((.slice Ao38 t725.length co38) : Value).ownBlock ∧ some k_ ≠ ((.slice Ao46 t781.length co46) : Value).ownBlock ∧ some k_ ≠ ((.slice Ao213 t810.length co213) : Value).ownBlock) (.slice Ao59 t751.length co59) t790) ∧ Aside0 (Kd.R (Kd.int .i64) 3 wc w.heap.size (fun k_ => some k_ ≠ ((.slice Ao192 t757.length co192) : Value).ownBlock ∧ some k_ ≠ ((.slice Ao39 t728.length co39) : Value).ownBlock ∧ some k_ ≠ ((.slice Ao47 t782.length co47) : Value).ownBlock ∧ some k_ ≠ ((.slice Ao214 t813.length co214) : Value).ownBlock) (.slice Ao60 t754.length co60) t791) ∧ Aside0 (Kd.R k59 59 wc w.heap.size (fun k_ => some k_ ≠ ((.slice Ao38 t725.length co38) : Value).ownBlock ∧ some k_ ≠ ((.slice Ao46 t781.length co46) : Value).ownBlock ∧ some k_ ≠ ((.slice Ao59 t751.length co59) : Value).ownBlock) (.slice Ao213 t810.length co213) t810) ∧ Aside0 (Kd.R (Kd.int .i64) 3 wc w.heap.size (fun k_ => some k_ ≠ ((.slice Ao192 t757.length co192) : Value).ownBlock ∧ some k_ ≠ ((.slice Ao39 t728.length co39) : Value).ownBlock ∧ some k_ ≠ ((.slice Ao47 t782.length co47) : Value).ownBlock ∧ some k_ ≠ ((.slice Ao60 t754.length co60) : Value).ownBlock) (.slice Ao214 t813.length co214) t813) ∧ Aside0 (wc.heap[gb709]? = some (.cells #[.int .i64 a0_0, (.slice A0_1 l0_1.length c0_1), (.slice A0_2 l0_2.length c0_2)] 25 (0, 0))) ∧ Aside0 (wc.heap[gb735]? = some (.cells #[.int .i64 t724, (.slice Ao38 t725.length co38), (.slice Ao39 t728.length co39)] 30 (0, 0))) ∧ Aside0 (wc.heap[gb743]? = some (.cells #[.int .i64 t736, (.slice Ao46 t781.length co46), (.slice Ao47 t782.length co47)] 30 (0, 0))) ∧ Aside0 (wc.heap[gb761]? = some (.cells #[.int .i64 t750, (.slice Ao59 t751.length co59), (.slice Ao60 t754.length co60)] 30 (0, 0))) ∧ Aside0 (wc.heap[gb820]? = some (.cells #[.int .i64 t809, (.slice Ao213 t810.length co213), (.slice Ao214 t813.length co214)] 30 (0, 0))) ∧ Aside0 (Below w.heap.size w wc))
                case first =>
                 have H := HC186.out
                 clear HC186
                 replace H := Option.bind_eq_some_iff.mp H
                 obtain ⟨t821, A2150, H⟩ := H
                 replace H : (if t821 = true then ((laws_eqIntS.f kj105 t816 t731).bind fun t822 => (if t822 = true then (laws_FnExactAddGates.j2 kj105 t793 t792 (t819 != t734) t750 t790 t791) else (laws_FnExactAddGates.j2 kj105 t793 t792 true t750 t790 t791))) else (laws_FnExactAddGates.j2 kj105 t793 t792 true t750 t790 t791)) = some true := H
                 have A215 := Aside0.mk A2150
                 clear A2150
                 by_cases c216 : t821 = true
                 ·subst c216
                  have H1 : ((laws_eqIntS.f kj105 t816 t731).bind fun t822 => (if t822 = true then (laws_FnExactAddGates.j2 kj105 t793 t792 (t819 != t734) t750 t790 t791) else (laws_FnExactAddGates.j2 kj105 t793 t792 true t750 t790 t791))) = some true := by rw [if_pos rfl] at H; exact H
                  clear H
                  have H := H1
                  clear H1
                  replace H := Option.bind_eq_some_iff.mp H
                  obtain ⟨t822, A2170, H⟩ := H
                  replace H : (if t822 = true then (laws_FnExactAddGates.j2 kj105 t793 t792 (t819 != t734) t750 t790 t791) else (laws_FnExactAddGates.j2 kj105 t793 t792 true t750 t790 t791)) = some true := H
                  have A217 := Aside0.mk A2170
                  clear A2170
                  by_cases c218 : t822 = true
                  ·subst c218
                   have H1 : (laws_FnExactAddGates.j2 kj105 t793 t792 (t819 != t734) t750 t790 t791) = some true := by rw [if_pos rfl] at H; exact H
                   clear H
                   have H := H1
                   clear H1
                   have H' := Aside0.mk H
                   clear H
                   have hnb219 := NB820_709.out
                   have hnc219 := NB709_820.out
                   have hnb220 := NB820_735.out
                   have hnc220 := NB735_820.out
                   have hnb221 := NB820_743.out
                   have hnc221 := NB743_820.out
                   have hnb222 := NB820_761.out
                   have hnc222 := NB761_820.out
                   have hcz223_0 : w207.cell? ⟨gb820, 0, none⟩ = some (.int .i64 0) := (blk_cell BK820.out 0).trans rfl
                   have hcz223_1 : w207.cell? ⟨gb820, 1, none⟩ = some (.slice none 0 0) := (blk_cell BK820.out 1).trans rfl
                   have hcz223_2 : w207.cell? ⟨gb820, 2, none⟩ = some (.slice none 0 0) := (blk_cell BK820.out 2).trans rfl
                   have hfz223_0 := blk_frozen BK820.out 0
                   have hfz223_1 := blk_frozen BK820.out 1
                   have hfz223_2 := blk_frozen BK820.out 2
                   have hnb224 := NB735_709.out
                   have hnc224 := NB709_735.out
                   have hnb225 := NB735_743.out
                   have hnc225 := NB743_735.out
                   have hnb226 := NB735_761.out
                   have hnc226 := NB761_735.out
                   have hcz227_0 : w207.cell? ⟨gb735, 0, none⟩ = some (.int .i64 t724) := (blk_cell BK735.out 0).trans rfl
                   have hcz227_1 : w207.cell? ⟨gb735, 1, none⟩ = some (.slice Ao38 t725.length co38) := (blk_cell BK735.out 1).trans rfl
                   have hcz227_2 : w207.cell? ⟨gb735, 2, none⟩ = some (.slice Ao39 t728.length co39) := (blk_cell BK735.out 2).trans rfl
                   have hfz227_0 := blk_frozen BK735.out 0
                   have hfz227_1 := blk_frozen BK735.out 1
                   have hfz227_2 := blk_frozen BK735.out 2
                   go_wp2_with (first | ((with_reducible refine gate_callee (f := 15) rfl ?_); refine goesL_ (some 154) rfl rfl Try.func15 (by kernel_rfl) rfl #[.agg #[.int .i64 t809, .slice Ao213 t810.length co213, .slice Ao214 t813.length co214], .agg #[.int .i64 t724, .slice Ao38 t725.length co38, .slice Ao39 t728.length co39]] rfl qG ?_; (with_reducible refine (laws_eqCircuit.calls kj105 t809 _ _ t810 _ _ t813 t724 _ _ t725 _ _ t728 true _ ?side1 ?side2 ?side3 ?side4 ?side5 ?side6 ?side7 ?side8 A215.out).mono ?_); (case side1 => refine (Kd.R_reads' (e := 59) (base := w.heap.size) (ok := fun k_ => ((((True ∧ some k_ ≠ (.slice Ao38 t725.length co38 : Value).ownBlock) ∧ some k_ ≠ (.slice Ao46 t781.length co46 : Value).ownBlock) ∧ some k_ ≠ (.slice Ao59 t751.length co59 : Value).ownBlock) ∧ some k_ ≠ (.slice Ao202 t797.length co202 : Value).ownBlock)) (n := t810.length) (c := co213) ?_).2.2; exact (by (with_reducible repeat (first | apply Kd.R_alloc | apply Kd.R_drewN | apply Kd.R_drew)); exact (Kd.R_mono (Kd.R_far (p := ⟨gb820, 2, none⟩) (Kd.R_far (p := ⟨gb820, 1, none⟩) (Kd.R_far (p := ⟨gb820, 0, none⟩) (Kd.R_types HO812.out BK820.out (by decide)) (fun _ hk => hk.2) (.int .i64 t809)) (fun _ hk => hk.2) (.slice Ao213 t810.length co213)) (fun _ hk => hk.2) (.slice Ao214 t813.length co214)) (fun _ h_ => h_.1)))); (case side2 => exact (Kd.R_reads' HO812.out).2.1); (case side3 => refine (Kd.R_reads' (e := 3) (base := w.heap.size) (ok := fun k_ => ((((((((some k_ ≠ (v817 : Value).ownBlock ∧ some k_ ≠ (v732 : Value).ownBlock) ∧ some k_ ≠ (.slice Ao192 t757.length co192 : Value).ownBlock) ∧ some k_ ≠ (.slice Ao39 t728.length co39 : Value).ownBlock) ∧ some k_ ≠ (.slice Ao47 t782.length co47 : Value).ownBlock) ∧ some k_ ≠ (.slice Ao60 t754.length co60 : Value).ownBlock) ∧ some k_ ≠ (.slice Ao203 t800.length co203 : Value).ownBlock) ∧ some k_ ≠ (.slice Ao204 t803.length co204 : Value).ownBlock) ∧ some k_ ≠ (.slice Ao205 t806.length co205 : Value).ownBlock)) (n := t813.length) (c := co214) ?_).2.2; exact (by (with_reducible repeat (first | apply Kd.R_alloc | apply Kd.R_drewN | apply Kd.R_drew)); exact (Kd.R_mono (Kd.R_far (p := ⟨gb820, 2, none⟩) (Kd.R_far (p := ⟨gb820, 1, none⟩) (Kd.R_far (p := ⟨gb820, 0, none⟩) (Kd.R_types HO815.out BK820.out (by decide)) (fun _ hk => hk.2) (.int .i64 t809)) (fun _ hk => hk.2) (.slice Ao213 t810.length co213)) (fun _ hk => hk.2) (.slice Ao214 t813.length co214)) (fun _ h_ => h_.1)))); (case side4 => exact (Kd.R_reads' HO815.out).2.1); (case side5 => refine (Kd.R_reads' (e := 59) (base := w.heap.size) (ok := fun k_ => (((some k_ ≠ (.slice Ao46 t781.length co46 : Value).ownBlock ∧ some k_ ≠ (.slice Ao59 t751.length co59 : Value).ownBlock) ∧ some k_ ≠ (.slice Ao202 t797.length co202 : Value).ownBlock) ∧ some k_ ≠ (.slice Ao213 t810.length co213 : Value).ownBlock)) (n := t725.length) (c := co38) ?_).2.2; exact (by (with_reducible repeat (first | apply Kd.R_alloc | apply Kd.R_drewN | apply Kd.R_drew)); exact (Kd.R_mono (Kd.R_far (p := ⟨gb820, 2, none⟩) (Kd.R_far (p := ⟨gb820, 1, none⟩) (Kd.R_far (p := ⟨gb820, 0, none⟩) (Kd.R_types HO_736001.out BK820.out (by decide)) (fun _ hk => hk.2) (.int .i64 t809)) (fun _ hk => hk.2) (.slice Ao213 t810.length co213)) (fun _ hk => hk.2) (.slice Ao214 t813.length co214)) (fun _ h_ => h_.1)))); (case side6 => exact (Kd.R_reads' HO_736001.out).2.1); (case side7 => refine (Kd.R_reads' (e := 3) (base := w.heap.size) (ok := fun k_ => ((((((some k_ ≠ (v732 : Value).ownBlock ∧ (some k_ ≠ (.slice Ao192 t757.length co192 : Value).ownBlock ∧ (some k_ ≠ (.slice Ao47 t782.length co47 : Value).ownBlock ∧ some k_ ≠ (.slice Ao60 t754.length co60 : Value).ownBlock))) ∧ some k_ ≠ (.slice Ao203 t800.length co203 : Value).ownBlock) ∧ some k_ ≠ (.slice Ao204 t803.length co204 : Value).ownBlock) ∧ some k_ ≠ (.slice Ao205 t806.length co205 : Value).ownBlock) ∧ some k_ ≠ (.slice Ao214 t813.length co214 : Value).ownBlock) ∧ some k_ ≠ (v817 : Value).ownBlock)) (n := t728.length) (c := co39) ?_).2.2; exact (by (with_reducible repeat (first | apply Kd.R_alloc | apply Kd.R_drewN | apply Kd.R_drew)); exact (Kd.R_mono (Kd.R_far (p := ⟨gb820, 2, none⟩) (Kd.R_far (p := ⟨gb820, 1, none⟩) (Kd.R_far (p := ⟨gb820, 0, none⟩) (Kd.R_types HO_736002.out BK820.out (by decide)) (fun _ hk => hk.2) (.int .i64 t809)) (fun _ hk => hk.2) (.slice Ao213 t810.length co213)) (fun _ hk => hk.2) (.slice Ao214 t813.length co214)) (fun _ h_ => h_.1)))); (case side8 => exact (Kd.R_reads' HO_736002.out).2.1); rintro e w228 ⟨rfl, hb⟩; refine ⟨_, rfl, ?_⟩; have n0_ := Aside0.mk (Kd.R_below (by (with_reducible repeat (first | apply Kd.R_alloc | apply Kd.R_drewN | apply Kd.R_drew)); exact (Kd.R_mono (Kd.R_far (p := ⟨gb820, 2, none⟩) (Kd.R_far (p := ⟨gb820, 1, none⟩) (Kd.R_far (p := ⟨gb820, 0, none⟩) (Kd.R_types HO_11.out BK820.out (by decide)) (fun _ hk => hk.2) (.int .i64 t809)) (fun _ hk => hk.2) (.slice Ao213 t810.length co213)) (fun _ hk => hk.2) (.slice Ao214 t813.length co214)) (fun _ h_ => h_.1))) hb); have n1_ := Aside0.mk (Kd.R_below (by (with_reducible repeat (first | apply Kd.R_alloc | apply Kd.R_drewN | apply Kd.R_drew)); exact (Kd.R_mono (Kd.R_far (p := ⟨gb820, 2, none⟩) (Kd.R_far (p := ⟨gb820, 1, none⟩) (Kd.R_far (p := ⟨gb820, 0, none⟩) (Kd.R_types HO_17.out BK820.out (by decide)) (fun _ hk => hk.2) (.int .i64 t809)) (fun _ hk => hk.2) (.slice Ao213 t810.length co213)) (fun _ hk => hk.2) (.slice Ao214 t813.length co214)) (fun _ h_ => h_.1))) hb); have n2_ := Aside0.mk (Kd.R_below (by (with_reducible repeat (first | apply Kd.R_alloc | apply Kd.R_drewN | apply Kd.R_drew)); exact (Kd.R_mono (Kd.R_far (p := ⟨gb820, 2, none⟩) (Kd.R_far (p := ⟨gb820, 1, none⟩) (Kd.R_far (p := ⟨gb820, 0, none⟩) (Kd.R_types HO_736001.out BK820.out (by decide)) (fun _ hk => hk.2) (.int .i64 t809)) (fun _ hk => hk.2) (.slice Ao213 t810.length co213)) (fun _ hk => hk.2) (.slice Ao214 t813.length co214)) (fun _ h_ => h_.1))) hb); have n3_ := Aside0.mk (Kd.R_below (by (with_reducible repeat (first | apply Kd.R_alloc | apply Kd.R_drewN | apply Kd.R_drew)); exact (Kd.R_mono (Kd.R_far (p := ⟨gb820, 2, none⟩) (Kd.R_far (p := ⟨gb820, 1, none⟩) (Kd.R_far (p := ⟨gb820, 0, none⟩) (Kd.R_types HO_736002.out BK820.out (by decide)) (fun _ hk => hk.2) (.int .i64 t809)) (fun _ hk => hk.2) (.slice Ao213 t810.length co213)) (fun _ hk => hk.2) (.slice Ao214 t813.length co214)) (fun _ h_ => h_.1))) hb); have n4_ := Aside0.mk (Kd.R_below (by (with_reducible repeat (first | apply Kd.R_alloc | apply Kd.R_drewN | apply Kd.R_drew)); exact (Kd.R_mono (Kd.R_far (p := ⟨gb820, 2, none⟩) (Kd.R_far (p := ⟨gb820, 1, none⟩) (Kd.R_far (p := ⟨gb820, 0, none⟩) (Kd.R_types HO_744001.out BK820.out (by decide)) (fun _ hk => hk.2) (.int .i64 t809)) (fun _ hk => hk.2) (.slice Ao213 t810.length co213)) (fun _ hk => hk.2) (.slice Ao214 t813.length co214)) (fun _ h_ => h_.1))) hb); have n5_ := Aside0.mk (Kd.R_below (by (with_reducible repeat (first | apply Kd.R_alloc | apply Kd.R_drewN | apply Kd.R_drew)); exact (Kd.R_mono (Kd.R_far (p := ⟨gb820, 2, none⟩) (Kd.R_far (p := ⟨gb820, 1, none⟩) (Kd.R_far (p := ⟨gb820, 0, none⟩) (Kd.R_types HO_744002.out BK820.out (by decide)) (fun _ hk => hk.2) (.int .i64 t809)) (fun _ hk => hk.2) (.slice Ao213 t810.length co213)) (fun _ hk => hk.2) (.slice Ao214 t813.length co214)) (fun _ h_ => h_.1))) hb); have n6_ := Aside0.mk (Kd.R_below (by (with_reducible repeat (first | apply Kd.R_alloc | apply Kd.R_drewN | apply Kd.R_drew)); exact (Kd.R_mono (Kd.R_far (p := ⟨gb820, 2, none⟩) (Kd.R_far (p := ⟨gb820, 1, none⟩) (Kd.R_far (p := ⟨gb820, 0, none⟩) (Kd.R_types HO_762001.out BK820.out (by decide)) (fun _ hk => hk.2) (.int .i64 t809)) (fun _ hk => hk.2) (.slice Ao213 t810.length co213)) (fun _ hk => hk.2) (.slice Ao214 t813.length co214)) (fun _ h_ => h_.1))) hb); have n7_ := Aside0.mk (Kd.R_below (by (with_reducible repeat (first | apply Kd.R_alloc | apply Kd.R_drewN | apply Kd.R_drew)); exact (Kd.R_mono (Kd.R_far (p := ⟨gb820, 2, none⟩) (Kd.R_far (p := ⟨gb820, 1, none⟩) (Kd.R_far (p := ⟨gb820, 0, none⟩) (Kd.R_types HO_762002.out BK820.out (by decide)) (fun _ hk => hk.2) (.int .i64 t809)) (fun _ hk => hk.2) (.slice Ao213 t810.length co213)) (fun _ hk => hk.2) (.slice Ao214 t813.length co214)) (fun _ h_ => h_.1))) hb); have n8_ := Aside0.mk (Kd.R_below (by (with_reducible repeat (first | apply Kd.R_alloc | apply Kd.R_drewN | apply Kd.R_drew)); exact (Kd.R_mono (Kd.R_far (p := ⟨gb820, 2, none⟩) (Kd.R_far (p := ⟨gb820, 1, none⟩) (Kd.R_far (p := ⟨gb820, 0, none⟩) (Kd.R_types HO799.out BK820.out (by decide)) (fun _ hk => hk.2) (.int .i64 t809)) (fun _ hk => hk.2) (.slice Ao213 t810.length co213)) (fun _ hk => hk.2) (.slice Ao214 t813.length co214)) (fun _ h_ => h_.1))) hb); have n9_ := Aside0.mk (Kd.R_below (by (with_reducible repeat (first | apply Kd.R_alloc | apply Kd.R_drewN | apply Kd.R_drew)); exact (Kd.R_mono (Kd.R_far (p := ⟨gb820, 2, none⟩) (Kd.R_far (p := ⟨gb820, 1, none⟩) (Kd.R_far (p := ⟨gb820, 0, none⟩) (Kd.R_types HO802.out BK820.out (by decide)) (fun _ hk => hk.2) (.int .i64 t809)) (fun _ hk => hk.2) (.slice Ao213 t810.length co213)) (fun _ hk => hk.2) (.slice Ao214 t813.length co214)) (fun _ h_ => h_.1))) hb); have n10_ := Aside0.mk (Kd.R_below (by (with_reducible repeat (first | apply Kd.R_alloc | apply Kd.R_drewN | apply Kd.R_drew)); exact (Kd.R_mono (Kd.R_far (p := ⟨gb820, 2, none⟩) (Kd.R_far (p := ⟨gb820, 1, none⟩) (Kd.R_far (p := ⟨gb820, 0, none⟩) (Kd.R_types HO805.out BK820.out (by decide)) (fun _ hk => hk.2) (.int .i64 t809)) (fun _ hk => hk.2) (.slice Ao213 t810.length co213)) (fun _ hk => hk.2) (.slice Ao214 t813.length co214)) (fun _ h_ => h_.1))) hb); have n11_ := Aside0.mk (Kd.R_below (by (with_reducible repeat (first | apply Kd.R_alloc | apply Kd.R_drewN | apply Kd.R_drew)); exact (Kd.R_mono (Kd.R_far (p := ⟨gb820, 2, none⟩) (Kd.R_far (p := ⟨gb820, 1, none⟩) (Kd.R_far (p := ⟨gb820, 0, none⟩) (Kd.R_types HO808.out BK820.out (by decide)) (fun _ hk => hk.2) (.int .i64 t809)) (fun _ hk => hk.2) (.slice Ao213 t810.length co213)) (fun _ hk => hk.2) (.slice Ao214 t813.length co214)) (fun _ h_ => h_.1))) hb); have n12_ := Aside0.mk (Kd.R_below (by (with_reducible repeat (first | apply Kd.R_alloc | apply Kd.R_drewN | apply Kd.R_drew)); exact (Kd.R_mono (Kd.R_far (p := ⟨gb820, 2, none⟩) (Kd.R_far (p := ⟨gb820, 1, none⟩) (Kd.R_far (p := ⟨gb820, 0, none⟩) (Kd.R_types HO812.out BK820.out (by decide)) (fun _ hk => hk.2) (.int .i64 t809)) (fun _ hk => hk.2) (.slice Ao213 t810.length co213)) (fun _ hk => hk.2) (.slice Ao214 t813.length co214)) (fun _ h_ => h_.1))) hb); have n13_ := Aside0.mk (Kd.R_below (by (with_reducible repeat (first | apply Kd.R_alloc | apply Kd.R_drewN | apply Kd.R_drew)); exact (Kd.R_mono (Kd.R_far (p := ⟨gb820, 2, none⟩) (Kd.R_far (p := ⟨gb820, 1, none⟩) (Kd.R_far (p := ⟨gb820, 0, none⟩) (Kd.R_types HO815.out BK820.out (by decide)) (fun _ hk => hk.2) (.int .i64 t809)) (fun _ hk => hk.2) (.slice Ao213 t810.length co213)) (fun _ hk => hk.2) (.slice Ao214 t813.length co214)) (fun _ h_ => h_.1))) hb); have n14_ := Aside0.mk (Kd.R_below (by (with_reducible repeat (first | apply Kd.R_alloc | apply Kd.R_drewN | apply Kd.R_drew)); exact (Kd.R_mono (Kd.R_far (p := ⟨gb820, 2, none⟩) (Kd.R_far (p := ⟨gb820, 1, none⟩) (Kd.R_far (p := ⟨gb820, 0, none⟩) (Kd.R_types HO818.out BK820.out (by decide)) (fun _ hk => hk.2) (.int .i64 t809)) (fun _ hk => hk.2) (.slice Ao213 t810.length co213)) (fun _ hk => hk.2) (.slice Ao214 t813.length co214)) (fun _ h_ => h_.1))) hb); have n15_ := Aside0.mk (blk_below (g := gb709) (o := .cells #[.int .i64 a0_0, .slice A0_1 l0_1.length c0_1, .slice A0_2 l0_2.length c0_2] 25 (0, 0)) (qF BK709.out) hb); have n16_ := Aside0.mk (blk_below (g := gb735) (o := .cells #[.int .i64 t724, .slice Ao38 t725.length co38, .slice Ao39 t728.length co39] 30 (0, 0)) (qF BK735.out) hb); have n17_ := Aside0.mk (blk_below (g := gb743) (o := .cells #[.int .i64 t736, .slice Ao46 t781.length co46, .slice Ao47 t782.length co47] 30 (0, 0)) (qF BK743.out) hb); have n18_ := Aside0.mk (blk_below (g := gb761) (o := .cells #[.int .i64 t750, .slice Ao59 t751.length co59, .slice Ao60 t754.length co60] 30 (0, 0)) (qF BK761.out) hb); have n19_ := Aside0.mk (blk_below (g := gb820) (o := .cells #[.int .i64 t809, .slice Ao213 t810.length co213, .slice Ao214 t813.length co214] 30 (0, 0)) (by (with_reducible repeat (first | refine blk_drewN ?_ _ | refine blk_drew ?_ | refine blk_alloc ?_ _)); refine blk_put (cs := #[.int .i64 t809, .slice Ao213 t810.length co213, .slice none 0 0]) ?_ 2 _ rfl; refine blk_put (cs := #[.int .i64 t809, .slice none 0 0, .slice none 0 0]) ?_ 1 _ rfl; refine blk_put (cs := #[.int .i64 0, .slice none 0 0, .slice none 0 0]) ?_ 0 _ rfl; exact qK BK820.out) hb); have n20_ := Aside0.mk (below_step (qB) hb); clear HO_11; clear HO_17; clear HO_736001; clear HO_736002; clear HO_744001; clear HO_744002; clear HO_762001; clear HO_762002; clear HO799; clear HO802; clear HO805; clear HO808; clear HO812; clear HO815; clear HO818; clear BK709; clear BK735; clear BK743; clear BK761; clear BK820; clear HB; have HO_11 := n0_; have HO_17 := n1_; have HO_736001 := n2_; have HO_736002 := n3_; have HO_744001 := n4_; have HO_744002 := n5_; have HO_762001 := n6_; have HO_762002 := n7_; have HO799 := n8_; have HO802 := n9_; have HO805 := n10_; have HO808 := n11_; have HO812 := n12_; have HO815 := n13_; have HO818 := n14_; have BK709 := n15_; have BK735 := n16_; have BK743 := n17_; have BK761 := n18_; have BK820 := n19_; have HB := n20_; clear n0_ n1_ n2_ n3_ n4_ n5_ n6_ n7_ n8_ n9_ n10_ n11_ n12_ n13_ n14_ n15_ n16_ n17_ n18_ n19_ n20_; (try clear hb); (try clear hb2); (try clear hk); (try clear hi); obtain ⟨Ao229, co229, eo229⟩ := Kd.R_slice HO818.out; subst eo229; obtain ⟨Ao230, co230, eo230⟩ := Kd.R_slice HO_11.out; subst eo230) | (go_at_call 27; (with_reducible refine (laws_eqIntS.calls kj105 _ _ t816 _ _ t731 true _ ?side1 ?side2 ?side3 ?side4 A217.out).mono ?_); (case side1 => repeat (first | exact (Kd.R_reads' HO818.out).2.2 | (with_reducible refine Kd.C_alloc ?_ _) | (with_reducible refine Kd.C_drewN ?_ _) | (with_reducible refine Kd.C_drew ?_))); (case side2 => exact (Kd.R_reads' HO818.out).2.1); (case side3 => repeat (first | exact (Kd.R_reads' HO_11.out).2.2 | (with_reducible refine Kd.C_alloc ?_ _) | (with_reducible refine Kd.C_drewN ?_ _) | (with_reducible refine Kd.C_drew ?_))); (case side4 => exact (Kd.R_reads' HO_11.out).2.1); rintro e w' ⟨rfl, ⟨nd, rfl⟩⟩))
                   go_meet
                   case rel => exact ⟨_, ((t819 != t734)), qS, H', ⟨by have := HJ21.out; have := HJ105.out; first | omega | exact Nat.le_refl _⟩, ⟨by (try simp only [hl744001_105]); (try simp only [hl744002_105]); (with_reducible repeat (first | apply Kd.R_alloc | apply Kd.R_drewN | apply Kd.R_drew)); exact Kd.R_mono HO_17.out (fun _ hk => ⟨hk.1.1.1.1.1.2.1, ⟨hk.1.1.1.1.1.2.2.1, ⟨hk.1.1.1.1.1.2.2.2, hk.1.2⟩⟩⟩)⟩, ⟨by (try simp only [hl744001_105]); (try simp only [hl744002_105]); (with_reducible repeat (first | apply Kd.R_alloc | apply Kd.R_drewN | apply Kd.R_drew)); exact Kd.R_mono HO_736001.out (fun _ hk => ⟨hk.1.1.1, ⟨hk.1.1.2, hk.2⟩⟩)⟩, ⟨by (try simp only [hl744001_105]); (try simp only [hl744002_105]); (with_reducible repeat (first | apply Kd.R_alloc | apply Kd.R_drewN | apply Kd.R_drew)); exact Kd.R_mono HO_736002.out (fun _ hk => ⟨hk.1.1.1.1.1.2.1, ⟨hk.1.1.1.1.1.2.2.1, ⟨hk.1.1.1.1.1.2.2.2, hk.1.2⟩⟩⟩)⟩, ⟨by (try simp only [hl744001_105]); (try simp only [hl744002_105]); (with_reducible repeat (first | apply Kd.R_alloc | apply Kd.R_drewN | apply Kd.R_drew)); exact Kd.R_mono HO_744001.out (fun _ hk => ⟨hk.1.1.1, ⟨hk.1.1.2, hk.2⟩⟩)⟩, ⟨by (try simp only [hl744001_105]); (try simp only [hl744002_105]); (with_reducible repeat (first | apply Kd.R_alloc | apply Kd.R_drewN | apply Kd.R_drew)); exact Kd.R_mono HO_744002.out (fun _ hk => ⟨hk.1.1.1.1.1.2.1, ⟨hk.1.1.1.1.1.2.2.1, ⟨hk.1.1.1.1.1.2.2.2, hk.1.2⟩⟩⟩)⟩, ⟨by (try simp only [hl744001_105]); (try simp only [hl744002_105]); (with_reducible repeat (first | apply Kd.R_alloc | apply Kd.R_drewN | apply Kd.R_drew)); exact Kd.R_mono HO_762001.out (fun _ hk => ⟨hk.1.1.1, ⟨hk.1.1.2, hk.2⟩⟩)⟩, ⟨by (try simp only [hl744001_105]); (try simp only [hl744002_105]); (with_reducible repeat (first | apply Kd.R_alloc | apply Kd.R_drewN | apply Kd.R_drew)); exact Kd.R_mono HO_762002.out (fun _ hk => ⟨hk.1.1.1.1.1.2.1, ⟨hk.1.1.1.1.1.2.2.1, ⟨hk.1.1.1.1.1.2.2.2, hk.1.2⟩⟩⟩)⟩, ⟨by (try simp only [hl744001_105]); (try simp only [hl744002_105]); (with_reducible repeat (first | apply Kd.R_alloc | apply Kd.R_drewN | apply Kd.R_drew)); exact Kd.R_mono HO812.out (fun _ hk => ⟨hk.1.1.1.2, ⟨hk.1.1.2, hk.1.2⟩⟩)⟩, ⟨by (try simp only [hl744001_105]); (try simp only [hl744002_105]); (with_reducible repeat (first | apply Kd.R_alloc | apply Kd.R_drewN | apply Kd.R_drew)); exact Kd.R_mono HO815.out (fun _ hk => ⟨hk.1.1.1.1.1.1.2, ⟨hk.1.1.1.1.1.2, ⟨hk.1.1.1.1.2, hk.1.1.1.2⟩⟩⟩)⟩, ⟨by (try simp only [hl744001_105]); (try simp only [hl744002_105]); exact qK BK709.out⟩, ⟨by (try simp only [hl744001_105]); (try simp only [hl744002_105]); exact qK BK735.out⟩, ⟨by (try simp only [hl744001_105]); (try simp only [hl744002_105]); exact qK BK743.out⟩, ⟨by (try simp only [hl744001_105]); (try simp only [hl744002_105]); exact qK BK761.out⟩, ⟨by (try simp only [hl744001_105]); (try simp only [hl744002_105]); exact qK BK820.out⟩, ⟨qB⟩⟩
                  ·replace c218 := Bool.eq_false_iff.mpr c218
                   subst c218
                   have H1 : (laws_FnExactAddGates.j2 kj105 t793 t792 true t750 t790 t791) = some true := by rw [if_neg (show ¬ (false = true) by decide)] at H; exact H
                   exact absurd H1 (by cases kj105 <;> simp [laws_FnExactAddGates.j2])
                 ·replace c216 := Bool.eq_false_iff.mpr c216
                  subst c216
                  have H1 : (laws_FnExactAddGates.j2 kj105 t793 t792 true t750 t790 t791) = some true := by rw [if_neg (show ¬ (false = true) by decide)] at H; exact H
                  exact absurd H1 (by cases kj105 <;> simp [laws_FnExactAddGates.j2])
                case rest =>
                 clear HC186
                 try clear p2
                 try clear c5b0
                 try clear c5b1
                 try clear c7b0
                 try clear c7b1
                 try clear c10b0
                 try clear c123b0
                 try clear c160b0
                 try clear c171b0
                 try clear c181b0
                 try clear c181b1
                 try clear hcz119_0
                 try clear hcz119_1
                 try clear hcz119_2
                 try clear hcz12_0
                 try clear hcz12_1
                 try clear hcz12_2
                 try clear hcz131_0
                 try clear hcz131_1
                 try clear hcz131_2
                 try clear hcz134_0
                 try clear hcz134_1
                 try clear hcz134_2
                 try clear hcz141_0
                 try clear hcz141_1
                 try clear hcz141_2
                 try clear hcz144_0
                 try clear hcz144_1
                 try clear hcz144_2
                 try clear hcz151_0
                 try clear hcz151_1
                 try clear hcz151_2
                 try clear hcz154_0
                 try clear hcz154_1
                 try clear hcz154_2
                 try clear hcz164_0
                 try clear hcz164_1
                 try clear hcz164_2
                 try clear hcz168_0
                 try clear hcz168_1
                 try clear hcz168_2
                 try clear hcz175_0
                 try clear hcz175_1
                 try clear hcz175_2
                 try clear hcz179_0
                 try clear hcz179_1
                 try clear hcz179_2
                 try clear hcz190_0
                 try clear hcz190_1
                 try clear hcz190_2
                 try clear hcz194_0
                 try clear hcz194_1
                 try clear hcz194_2
                 try clear hcz198_0
                 try clear hcz198_1
                 try clear hcz198_2
                 try clear hcz212_0
                 try clear hcz212_1
                 try clear hcz212_2
                 try clear hcz223_0
                 try clear hcz223_1
                 try clear hcz223_2
                 try clear hcz227_0
                 try clear hcz227_1
                 try clear hcz227_2
                 try clear hcz235_0
                 try clear hcz235_1
                 try clear hcz235_2
                 try clear hcz239_0
                 try clear hcz239_1
                 try clear hcz239_2
                 try clear hcz247_0
                 try clear hcz247_1
                 try clear hcz247_2
                 try clear hcz24_0
                 try clear hcz24_1
                 try clear hcz24_2
                 try clear hcz251_0
                 try clear hcz251_1
                 try clear hcz251_2
                 try clear hcz26_0
                 try clear hcz26_1
                 try clear hcz26_2
                 try clear hcz37_0
                 try clear hcz37_1
                 try clear hcz37_2
                 try clear hcz40_0
                 try clear hcz40_1
                 try clear hcz40_2
                 try clear hcz45_0
                 try clear hcz45_1
                 try clear hcz45_2
                 try clear hcz50_0
                 try clear hcz50_1
                 try clear hcz50_2
                 try clear hcz58_0
                 try clear hcz58_1
                 try clear hcz58_2
                 try clear hcz68_0
                 try clear hcz68_1
                 try clear hcz68_2
                 try clear hcz71_0
                 try clear hcz71_1
                 try clear hcz71_2
                 try clear hcz78_0
                 try clear hcz78_1
                 try clear hcz78_2
                 try clear hcz81_0
                 try clear hcz81_1
                 try clear hcz81_2
                 try clear hcz88_0
                 try clear hcz88_1
                 try clear hcz88_2
                 try clear hcz91_0
                 try clear hcz91_1
                 try clear hcz91_2
                 try clear hfz119_0
                 try clear hfz119_1
                 try clear hfz119_2
                 try clear hfz12_0
                 try clear hfz12_1
                 try clear hfz12_2
                 try clear hfz131_0
                 try clear hfz131_1
                 try clear hfz131_2
                 try clear hfz134_0
                 try clear hfz134_1
                 try clear hfz134_2
                 try clear hfz141_0
                 try clear hfz141_1
                 try clear hfz141_2
                 try clear hfz144_0
                 try clear hfz144_1
                 try clear hfz144_2
                 try clear hfz151_0
                 try clear hfz151_1
                 try clear hfz151_2
                 try clear hfz154_0
                 try clear hfz154_1
                 try clear hfz154_2
                 try clear hfz164_0
                 try clear hfz164_1
                 try clear hfz164_2
                 try clear hfz168_0
                 try clear hfz168_1
                 try clear hfz168_2
                 try clear hfz175_0
                 try clear hfz175_1
                 try clear hfz175_2
                 try clear hfz179_0
                 try clear hfz179_1
                 try clear hfz179_2
                 try clear hfz190_0
                 try clear hfz190_1
                 try clear hfz190_2
                 try clear hfz194_0
                 try clear hfz194_1
                 try clear hfz194_2
                 try clear hfz198_0
                 try clear hfz198_1
                 try clear hfz198_2
                 try clear hfz212_0
                 try clear hfz212_1
                 try clear hfz212_2
                 try clear hfz223_0
                 try clear hfz223_1
                 try clear hfz223_2
                 try clear hfz227_0
                 try clear hfz227_1
                 try clear hfz227_2
                 try clear hfz235_0
                 try clear hfz235_1
                 try clear hfz235_2
                 try clear hfz239_0
                 try clear hfz239_1
                 try clear hfz239_2
                 try clear hfz247_0
                 try clear hfz247_1
                 try clear hfz247_2
                 try clear hfz24_0
                 try clear hfz24_1
                 try clear hfz24_2
                 try clear hfz251_0
                 try clear hfz251_1
                 try clear hfz251_2
                 try clear hfz26_0
                 try clear hfz26_1
                 try clear hfz26_2
                 try clear hfz37_0
                 try clear hfz37_1
                 try clear hfz37_2
                 try clear hfz40_0
                 try clear hfz40_1
                 try clear hfz40_2
                 try clear hfz45_0
                 try clear hfz45_1
                 try clear hfz45_2
                 try clear hfz50_0
                 try clear hfz50_1
                 try clear hfz50_2
                 try clear hfz58_0
                 try clear hfz58_1
                 try clear hfz58_2
                 try clear hfz68_0
                 try clear hfz68_1
                 try clear hfz68_2
                 try clear hfz71_0
                 try clear hfz71_1
                 try clear hfz71_2
                 try clear hfz78_0
                 try clear hfz78_1
                 try clear hfz78_2
                 try clear hfz81_0
                 try clear hfz81_1
                 try clear hfz81_2
                 try clear hfz88_0
                 try clear hfz88_1
                 try clear hfz88_2
                 try clear hfz91_0
                 try clear hfz91_1
                 try clear hfz91_2
                 try clear p2
                 obtain ⟨kq, x166_185, rfl, HA, HJ185, HO_17, HO_736001, HO_736002, HO_744001, HO_744002, HO_762001, HO_762002, HO_821001, HO_821002, BK709, BK735, BK743, BK761, BK820, HB⟩ := hcut
                 have hl17_185 := (Kd.R_reads' HO_17.out).1
                 rw [hl17_185] at HO_17
                 (try simp only [hl17_185])
                 (try simp only [hl17_185] at BK709)
                 (try simp only [hl17_185] at BK735)
                 (try simp only [hl17_185] at BK743)
                 (try simp only [hl17_185] at BK761)
                 (try simp only [hl17_185] at BK820)
                 (try simp only [hl17_185] at HO_736001)
                 (try simp only [hl17_185] at HO_736002)
                 (try simp only [hl17_185] at HO_744001)
                 (try simp only [hl17_185] at HO_744002)
                 (try simp only [hl17_185] at HO_762001)
                 (try simp only [hl17_185] at HO_762002)
                 (try simp only [hl17_185] at HO_821001)
                 (try simp only [hl17_185] at HO_821002)
                 have hl762001_185 := (Kd.R_reads' HO_762001.out).1
                 rw [hl762001_185] at HO_762001
                 (try simp only [hl762001_185])
                 (try simp only [hl762001_185] at BK709)
                 (try simp only [hl762001_185] at BK735)
                 (try simp only [hl762001_185] at BK743)
                 (try simp only [hl762001_185] at BK761)
                 (try simp only [hl762001_185] at BK820)
                 (try simp only [hl762001_185] at HO_17)
                 (try simp only [hl762001_185] at HO_736001)
                 (try simp only [hl762001_185] at HO_736002)
                 (try simp only [hl762001_185] at HO_744001)
                 (try simp only [hl762001_185] at HO_744002)
                 (try simp only [hl762001_185] at HO_762002)
                 (try simp only [hl762001_185] at HO_821001)
                 (try simp only [hl762001_185] at HO_821002)
                 have hl762002_185 := (Kd.R_reads' HO_762002.out).1
                 rw [hl762002_185] at HO_762002
                 (try simp only [hl762002_185])
                 (try simp only [hl762002_185] at BK709)
                 (try simp only [hl762002_185] at BK735)
                 (try simp only [hl762002_185] at BK743)
                 (try simp only [hl762002_185] at BK761)
                 (try simp only [hl762002_185] at BK820)
                 (try simp only [hl762002_185] at HO_17)
                 (try simp only [hl762002_185] at HO_736001)
                 (try simp only [hl762002_185] at HO_736002)
                 (try simp only [hl762002_185] at HO_744001)
                 (try simp only [hl762002_185] at HO_744002)
                 (try simp only [hl762002_185] at HO_762001)
                 (try simp only [hl762002_185] at HO_821001)
                 (try simp only [hl762002_185] at HO_821002)
                 cases kq with
                 | zero => exact absurd HA.out (by simp [laws_FnExactAddGates.j2])
                 | succ kj185 =>
                  have H := HA.out
                  clear HA
                  simp only [laws_FnExactAddGates.j2] at H
                  by_cases c253 : x166_185 = true
                  ·subst c253
                   have H1 : (some false) = some true := by rw [if_pos rfl] at H; exact H
                   exact absurd H1 (by simp)
                  ·replace c253 := Bool.eq_false_iff.mpr c253
                   subst c253
                   have H1 : ((laws_heldCircuit.f kj185 t750 t790 t791 1).bind fun t823 => (if t823 < 0 then (some false) else ((laws_heldIntS.f kj185 t793 t823).bind fun t824 => (if t824 < 0 then (some false) else (if t824 = t792 then (some true) else (some false)))))) = some true := by rw [if_neg (show ¬ (false = true) by decide)] at H; exact H
                   clear H
                   have H := H1
                   clear H1
                   replace H := Option.bind_eq_some_iff.mp H
                   obtain ⟨t823, A2540, H⟩ := H
                   replace H : (if t823 < 0 then (some false) else ((laws_heldIntS.f kj185 t793 t823).bind fun t824 => (if t824 < 0 then (some false) else (if t824 = t792 then (some true) else (some false))))) = some true := H
                   have A254 := Aside0.mk A2540
                   clear A2540
                   by_cases c255 : t823 < 0
                   ·rw [if_pos c255] at H
                    exact absurd H (by simp)
                   ·rw [if_neg c255] at H
                    have c255b0 : decide (t823 < 0) = false := decide_eq_false c255
                    clear c255
                    replace H := Option.bind_eq_some_iff.mp H
                    obtain ⟨t824, A2620, H⟩ := H
                    replace H : (if t824 < 0 then (some false) else (if t824 = t792 then (some true) else (some false))) = some true := H
                    have A262 := Aside0.mk A2620
                    clear A2620
                    by_cases c263 : t824 < 0
                    ·rw [if_pos c263] at H
                     exact absurd H (by simp)
                    ·rw [if_neg c263] at H
                     have c263b0 : decide (t824 < 0) = false := decide_eq_false c263
                     clear c263
                     by_cases c270 : t824 = t792
                     ·rw [if_pos c270] at H
                      have c270b0 : (t824 == t792) = true := beq_iff_eq.mpr c270
                      have c270b1 : (t824 != t792) = false := bne_eq_false_iff_eq.mpr c270
                      clear c270
                      have hnb271 := NB761_709.out
                      have hnc271 := NB709_761.out
                      have hnb272 := NB761_735.out
                      have hnc272 := NB735_761.out
                      have hnb273 := NB761_743.out
                      have hnc273 := NB743_761.out
                      have hnb274 := NB761_820.out
                      have hnc274 := NB820_761.out
                      have hcz275_0 : wc.cell? ⟨gb761, 0, none⟩ = some (.int .i64 t750) := (blk_cell BK761.out 0).trans rfl
                      have hcz275_1 : wc.cell? ⟨gb761, 1, none⟩ = some (.slice Ao59 t790.length co59) := (blk_cell BK761.out 1).trans rfl
                      have hcz275_2 : wc.cell? ⟨gb761, 2, none⟩ = some (.slice Ao60 t791.length co60) := (blk_cell BK761.out 2).trans rfl
                      have hfz275_0 := blk_frozen BK761.out 0
                      have hfz275_1 := blk_frozen BK761.out 1
                      have hfz275_2 := blk_frozen BK761.out 2
                      go_wp2_with (first | ((with_reducible refine gate_callee (f := 32) rfl ?_); refine goesL_ (some 169) rfl rfl Try.func32 (by kernel_rfl) rfl #[.agg #[.int .i64 t750, .slice Ao59 t790.length co59, .slice Ao60 t791.length co60], .int .i64 1] rfl qG ?_; (with_reducible refine (laws_heldCircuit.calls kj185 t750 _ _ t790 _ _ t791 1 t823 _ ?side1 ?side2 ?side3 ?side4 A254.out).mono ?_); (case side1 => repeat (first | exact (Kd.R_reads' HO_762001.out).2.2 | (with_reducible refine Kd.C_alloc ?_ _) | (with_reducible refine Kd.C_drewN ?_ _) | (with_reducible refine Kd.C_drew ?_))); (case side2 => exact (Kd.R_reads' HO_762001.out).2.1); (case side3 => repeat (first | exact (Kd.R_reads' HO_762002.out).2.2 | (with_reducible refine Kd.C_alloc ?_ _) | (with_reducible refine Kd.C_drewN ?_ _) | (with_reducible refine Kd.C_drew ?_))); (case side4 => exact (Kd.R_reads' HO_762002.out).2.1); rintro e w276 ⟨rfl, hb⟩; refine ⟨_, rfl, ?_⟩; have n0_ := Aside0.mk (Kd.R_below (qR HO_17.out) hb); have n1_ := Aside0.mk (Kd.R_below (qR HO_736001.out) hb); have n2_ := Aside0.mk (Kd.R_below (qR HO_736002.out) hb); have n3_ := Aside0.mk (Kd.R_below (qR HO_744001.out) hb); have n4_ := Aside0.mk (Kd.R_below (qR HO_744002.out) hb); have n5_ := Aside0.mk (Kd.R_below (qR HO_762001.out) hb); have n6_ := Aside0.mk (Kd.R_below (qR HO_762002.out) hb); have n7_ := Aside0.mk (Kd.R_below (qR HO_821001.out) hb); have n8_ := Aside0.mk (Kd.R_below (qR HO_821002.out) hb); have n9_ := Aside0.mk (blk_below (g := gb709) (o := .cells #[.int .i64 a0_0, .slice A0_1 l0_1.length c0_1, .slice A0_2 l0_2.length c0_2] 25 (0, 0)) (qK BK709.out) hb); have n10_ := Aside0.mk (blk_below (g := gb735) (o := .cells #[.int .i64 t724, .slice Ao38 t725.length co38, .slice Ao39 t728.length co39] 30 (0, 0)) (qK BK735.out) hb); have n11_ := Aside0.mk (blk_below (g := gb743) (o := .cells #[.int .i64 t736, .slice Ao46 t781.length co46, .slice Ao47 t782.length co47] 30 (0, 0)) (qK BK743.out) hb); have n12_ := Aside0.mk (blk_below (g := gb761) (o := .cells #[.int .i64 t750, .slice Ao59 t790.length co59, .slice Ao60 t791.length co60] 30 (0, 0)) (qK BK761.out) hb); have n13_ := Aside0.mk (blk_below (g := gb820) (o := .cells #[.int .i64 t809, .slice Ao213 t810.length co213, .slice Ao214 t813.length co214] 30 (0, 0)) (qK BK820.out) hb); have n14_ := Aside0.mk (below_step (qB) hb); clear HO_17; clear HO_736001; clear HO_736002; clear HO_744001; clear HO_744002; clear HO_762001; clear HO_762002; clear HO_821001; clear HO_821002; clear BK709; clear BK735; clear BK743; clear BK761; clear BK820; clear HB; have HO_17 := n0_; have HO_736001 := n1_; have HO_736002 := n2_; have HO_744001 := n3_; have HO_744002 := n4_; have HO_762001 := n5_; have HO_762002 := n6_; have HO_821001 := n7_; have HO_821002 := n8_; have BK709 := n9_; have BK735 := n10_; have BK743 := n11_; have BK761 := n12_; have BK820 := n13_; have HB := n14_; clear n0_ n1_ n2_ n3_ n4_ n5_ n6_ n7_ n8_ n9_ n10_ n11_ n12_ n13_ n14_; (try clear hb); (try clear hb2); (try clear hk); (try clear hi)) | ((with_reducible refine gate_callee (f := 29) rfl ?_); refine goesL_ (some 174) rfl rfl Try.func29 (by kernel_rfl) rfl #[.slice Ao192 t793.length co192, .int .i64 t823] rfl qG ?_; (with_reducible refine (laws_heldIntS.calls kj185 _ _ t793 t823 t824 _ ?side1 ?side2 A262.out).mono ?_); (case side1 => repeat (first | exact (Kd.R_reads' HO_17.out).2.2 | (with_reducible refine Kd.C_alloc ?_ _) | (with_reducible refine Kd.C_drewN ?_ _) | (with_reducible refine Kd.C_drew ?_))); (case side2 => exact (Kd.R_reads' HO_17.out).2.1); rintro e w' ⟨rfl, ⟨nd, rfl⟩⟩; refine ⟨_, rfl, ?_⟩))
                      go_ret
                      exact ⟨qE, qB⟩
                     ·rw [if_neg c270] at H
                      exact absurd H (by simp)
               ·rw [if_neg c181] at H
                exact absurd H (by simp)
         ·replace c102 := Bool.eq_false_iff.mpr c102
          subst c102
          have H1 : (some false) = some true := by rw [if_neg (show ¬ (false = true) by decide)] at H; exact H
          exact absurd H1 (by simp)
        ·replace c99 := Bool.eq_false_iff.mpr c99
         subst c99
         have H1 : (some false) = some true := by rw [if_neg (show ¬ (false = true) by decide)] at H; exact H
         exact absurd H1 (by simp)
       ·replace c96 := Bool.eq_false_iff.mpr c96
        subst c96
        have H1 : (some false) = some true := by rw [if_neg (show ¬ (false = true) by decide)] at H; exact H
        exact absurd H1 (by simp)
/-- THE PURE STATEMENT of laws_FnExactAddGates. -/
def laws_FnExactAddGates.Pure : Prop := ∀ (a0_0 : Int) (l0_1 : List (S82)) (l0_2 : List Int) (l1 : List Int) (l2 : List Int) (a3 : Int), (Lit.int .i64 a0_0).wf = true → ((l0_1).length ≤ maxLen ∧ ∀ y ∈ l0_1, wf82 y) → ((l0_2).length ≤ maxLen ∧ ∀ y ∈ l0_2, (Lit.int .i64 y).wf = true) → ((l1).length ≤ maxLen ∧ ∀ y ∈ l1, (Lit.int .i64 y).wf = true) → ((l2).length ≤ maxLen ∧ ∀ y ∈ l2, (Lit.int .i64 y).wf = true) → (Lit.int .i64 a3).wf = true → ∃ k, laws_FnExactAddGates.f k a0_0 l0_1 l0_2 l1 l2 a3 = some true
theorem laws_FnExactAddGates.walk (P : laws_FnExactAddGates.Pure) (a0_0 : Int) (A0_1 : Option Addr) (c0_1 : Nat) (l0_1 : List (S82)) (A0_2 : Option Addr) (c0_2 : Nat) (l0_2 : List Int) (A1 : Option Addr) (c1 : Nat) (l1 : List Int) (A2 : Option Addr) (c2 : Nat) (l2 : List Int) (a3 : Int) (w : World) (hr0_1 : Kd.C k82 w A0_1 l0_1.length l0_1) (hc0_1 : l0_1.length ≤ c0_1) (hr0_2 : Kd.C (Kd.int .i64) w A0_2 l0_2.length l0_2) (hc0_2 : l0_2.length ≤ c0_2) (hr1 : Kd.C (Kd.int .i64) w A1 l1.length l1) (hc1 : l1.length ≤ c1) (hr2 : Kd.C (Kd.int .i64) w A2 l2.length l2) (hc2 : l2.length ≤ c2) (w0_0 : (Lit.int .i64 a0_0).wf = true) (w0_1 : ((l0_1).length ≤ maxLen ∧ ∀ y ∈ l0_1, wf82 y)) (w0_2 : ((l0_2).length ≤ maxLen ∧ ∀ y ∈ l0_2, (Lit.int .i64 y).wf = true)) (w1 : ((l1).length ≤ maxLen ∧ ∀ y ∈ l1, (Lit.int .i64 y).wf = true)) (w2 : ((l2).length ≤ maxLen ∧ ∀ y ∈ l2, (Lit.int .i64 y).wf = true)) (w3 : (Lit.int .i64 a3).wf = true) :
  Calls Try.prog 8 #[.agg #[.int .i64 a0_0, .slice A0_1 l0_1.length c0_1, .slice A0_2 l0_2.length c0_2], .slice A1 l1.length c1, .slice A2 l2.length c2, .int .i64 a3] w fun e w' => e = .returned (.bool true) ∧ Below w.heap.size w w' := by
 obtain ⟨k, h⟩ := P a0_0 l0_1 l0_2 l1 l2 a3 w0_0 w0_1 w0_2 w1 w2 w3
 refine (laws_FnExactAddGates.calls k a0_0 A0_1 c0_1 l0_1 A0_2 c0_2 l0_2 A1 c1 l1 A2 c2 l2 a3 true w hr0_1 hc0_1 hr0_2 hc0_2 hr1 hc1 hr2 hc2 h).mono ?_
 rintro e w' ⟨rfl, hd⟩
 exact ⟨rfl, hd⟩

end Go.Proofs.Ytimkjhdopncimaa.X
