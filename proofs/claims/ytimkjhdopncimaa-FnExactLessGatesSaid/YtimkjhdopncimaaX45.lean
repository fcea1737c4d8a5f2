/- Go functions as Lean functions, each with the proof that its call comes to just its answer. Conditions: the arguments are of their kinds. -/
import Derived.Test.YtimkjhdopncimaaX0
import Derived.Test.YtimkjhdopncimaaX1
import Derived.Test.YtimkjhdopncimaaX5
import Derived.Test.YtimkjhdopncimaaX11
import Derived.Test.YtimkjhdopncimaaX13
import Derived.Test.YtimkjhdopncimaaX25
import Derived.Test.YtimkjhdopncimaaX39
import Derived.Test.YtimkjhdopncimaaX44
import Derived.Test.YtimkjhdopncimaaXO
namespace Go.Proofs.Ytimkjhdopncimaa.X
open Go.RowKit Go.Proofs.YtimkjhdopncimaaW.PrintWords Go.Proofs.YtimkjhdopncimaaW.PrintLast Go.Proofs.YtimkjhdopncimaaW.PrintMore
attribute [local go_sem] max2_int min2_int max_two min_two max_three min_three max_four min_four   -- for this text's walks alone
set_option linter.unusedVariables false
set_option linter.unusedSimpArgs false

/-! ### laws_FnExactLessGates: function 9 -/
mutual
def laws_FnExactLessGates.j0 : Nat → List Int → List Int → Int → Bool → List Int → List Int → Int → Bool → Bool → Int → List (S82) → List Int → Int → List (S59) → List Int → Int → List (S59) → List Int → Int → List (S59) → List Int → Option (Bool)
 | 0, _, _, _, _, _, _, _, _, _, _, _, _, _, _, _, _, _, _, _, _, _ => none
 | k + 1, x1, x2, x9, x10, x12, x13, x15, x16, x72, x826000, x826001, x826002, x850000, x850001, x850002, x858000, x858001, x858002, x874000, x874001, x874002 => if x72 = true then (some false) else ((laws_toCircuit.f k x826000 x826001 x826002).bind fun bt875 => ((laws_eqCircuit.f k x858000 x858001 x858002 bt875.1 bt875.2.1 bt875.2.2).bind fun t882 => (if t882 = true then ((laws_toIntS.f k x1).bind fun t883 => ((laws_eqIntS.f k x12 t883).bind fun t886 => (if t886 = true then ((laws_toIntS.f k x2).bind fun t887 => ((laws_eqIntS.f k x13 t887).bind fun t890 => (if t890 = true then ((laws_markCircuit.f k x858000 x858001 x858002 1).bind fun bt891 => ((laws_markIntS.f k x12 bt891.1).bind fun bt894 => ((laws_markIntS.f k x13 bt894.1).bind fun bt896 => (if bt896.1 < 0 then (laws_FnExactLessGates.j1 k x1 x2 x9 x10 true x826000 x826001 x826002 x850000 x850001 x850002 x874000 x874001 x874002) else ((laws_eqCircuit.f k x874000 x874001 x874002 x850000 x850001 x850002).bind fun t898 => (if t898 = true then (if x15 = x9 then (laws_FnExactLessGates.j1 k x1 x2 x9 x10 (x16 != x10) x826000 x826001 x826002 x850000 x850001 x850002 x874000 x874001 x874002) else (laws_FnExactLessGates.j1 k x1 x2 x9 x10 true x826000 x826001 x826002 x850000 x850001 x850002 x874000 x874001 x874002)) else (laws_FnExactLessGates.j1 k x1 x2 x9 x10 true x826000 x826001 x826002 x850000 x850001 x850002 x874000 x874001 x874002))))))) else (some false)))) else (some false)))) else (some false))))
def laws_FnExactLessGates.j1 : Nat → List Int → List Int → Int → Bool → Bool → Int → List (S82) → List Int → Int → List (S59) → List Int → Int → List (S59) → List Int → Option (Bool)
 | 0, _, _, _, _, _, _, _, _, _, _, _, _, _, _ => none
 | k + 1, x1, x2, x9, x10, x114, x826000, x826001, x826002, x850000, x850001, x850002, x874000, x874001, x874002 => if x114 = true then (some false) else ((laws_markCircuit.f k x874000 x874001 x874002 1).bind fun bt899 => ((laws_heldCircuit.f k x874000 bt899.2.1 bt899.2.2 1).bind fun t902 => (if t902 < 0 then (some false) else (if t902 = bt899.1 then ((laws_toCircuit.f k x826000 x826001 x826002).bind fun bt903 => ((laws_toIntS.f k x1).bind fun t910 => ((laws_toIntS.f k x2).bind fun t913 => ((impl_LessGates.f k bt903.1 bt903.2.1 bt903.2.2 t910 t913).bind fun bt916 => ((laws_eqCircuit.f k bt916.1 bt916.2.1 bt916.2.2.1 x850000 x850001 x850002).bind fun t926 => (if t926 = true then (if bt916.2.2.2.1 = x9 then (laws_FnExactLessGates.j2 k bt899.1 (bt916.2.2.2.2 != x10) x874000 bt899.2.1 bt899.2.2) else (laws_FnExactLessGates.j2 k bt899.1 true x874000 bt899.2.1 bt899.2.2)) else (laws_FnExactLessGates.j2 k bt899.1 true x874000 bt899.2.1 bt899.2.2))))))) else (some false)))))
def laws_FnExactLessGates.j2 : Nat → Int → Bool → Int → List (S59) → List Int → Option (Bool)
 | 0, _, _, _, _, _ => none
 | k + 1, x18, x150, x874000, x874001, x874002 => if x150 = true then (some false) else ((laws_heldCircuit.f k x874000 x874001 x874002 1).bind fun t927 => (if t927 < 0 then (some false) else (if t927 = x18 then (some true) else (some false))))
end
def laws_FnExactLessGates.f (k : Nat) (a0_0 : Int) (l0_1 : List (S82)) (l0_2 : List Int) (l1 : List Int) (l2 : List Int) : Option (Bool) := if (l1.length : Int) > 1048576 then (some true) else (if (l2.length : Int) > 1048576 then (some true) else ((laws_szCircuit.f a0_0 l0_1 l0_2 1048576).bind fun t826 => (if t826 < 0 then (some true) else ((laws_toCircuit.f k a0_0 l0_1 l0_2).bind fun bt827 => ((laws_toIntS.f k l1).bind fun t834 => ((laws_toIntS.f k l2).bind fun t837 => ((spec_LessGates.f k bt827.1 bt827.2.1 bt827.2.2 t834 t837).bind fun bt840 => ((laws_toCircuit.f k a0_0 l0_1 l0_2).bind fun bt850 => ((laws_toIntS.f k l1).bind fun t858 => ((laws_toIntS.f k l2).bind fun t861 => ((impl_LessGates.f k bt850.1 bt850.2.1 bt850.2.2 t858 t861).bind fun bt864 => ((laws_eqCircuit.f k bt864.1 bt864.2.1 bt864.2.2.1 bt840.1 bt840.2.1 bt840.2.2.1).bind fun t874 => (if t874 = true then (if bt864.2.2.2.1 = bt840.2.2.2.1 then (laws_FnExactLessGates.j0 k l1 l2 bt840.2.2.2.1 bt840.2.2.2.2 t858 t861 bt864.2.2.2.1 bt864.2.2.2.2 (bt864.2.2.2.2 != bt840.2.2.2.2) a0_0 l0_1 l0_2 bt840.1 bt840.2.1 bt840.2.2.1 bt850.1 bt850.2.1 bt850.2.2 bt864.1 bt864.2.1 bt864.2.2.1) else (laws_FnExactLessGates.j0 k l1 l2 bt840.2.2.2.1 bt840.2.2.2.2 t858 t861 bt864.2.2.2.1 bt864.2.2.2.2 true a0_0 l0_1 l0_2 bt840.1 bt840.2.1 bt840.2.2.1 bt850.1 bt850.2.1 bt850.2.2 bt864.1 bt864.2.1 bt864.2.2.1)) else (laws_FnExactLessGates.j0 k l1 l2 bt840.2.2.2.1 bt840.2.2.2.2 t858 t861 bt864.2.2.2.1 bt864.2.2.2.2 true a0_0 l0_1 l0_2 bt840.1 bt840.2.1 bt840.2.2.1 bt850.1 bt850.2.1 bt850.2.2 bt864.1 bt864.2.1 bt864.2.2.1))))))))))))))
theorem laws_FnExactLessGates.mono_l : ∀ k, (∀ y0 y1 y2 y3 y4 y5 y6 y7 y8 y9 y10 y11 y12 y13 y14 y15 y16 y17 y18 y19 y20, LeO (laws_FnExactLessGates.j0 k y0 y1 y2 y3 y4 y5 y6 y7 y8 y9 y10 y11 y12 y13 y14 y15 y16 y17 y18 y19 y20) (laws_FnExactLessGates.j0 (k + 1) y0 y1 y2 y3 y4 y5 y6 y7 y8 y9 y10 y11 y12 y13 y14 y15 y16 y17 y18 y19 y20)) ∧ (∀ y0 y1 y2 y3 y4 y5 y6 y7 y8 y9 y10 y11 y12 y13, LeO (laws_FnExactLessGates.j1 k y0 y1 y2 y3 y4 y5 y6 y7 y8 y9 y10 y11 y12 y13) (laws_FnExactLessGates.j1 (k + 1) y0 y1 y2 y3 y4 y5 y6 y7 y8 y9 y10 y11 y12 y13)) ∧ (∀ y0 y1 y2 y3 y4, LeO (laws_FnExactLessGates.j2 k y0 y1 y2 y3 y4) (laws_FnExactLessGates.j2 (k + 1) y0 y1 y2 y3 y4))
 | 0 => ⟨fun _ _ _ _ _ _ _ _ _ _ _ _ _ _ _ _ _ _ _ _ _ r h => by simp [laws_FnExactLessGates.j0] at h, fun _ _ _ _ _ _ _ _ _ _ _ _ _ _ r h => by simp [laws_FnExactLessGates.j1] at h, fun _ _ _ _ _ r h => by simp [laws_FnExactLessGates.j2] at h⟩
 | k + 1 => by
  obtain ⟨ih0, ih1, ih2⟩ := laws_FnExactLessGates.mono_l k
  refine ⟨?_, ?_, ?_⟩
  ·intro y0 y1 y2 y3 y4 y5 y6 y7 y8 y9 y10 y11 y12 y13 y14 y15 y16 y17 y18 y19 y20
   unfold laws_FnExactLessGates.j0
   repeat' first
   | (with_reducible exact ih0 _ _ _ _ _ _ _ _ _ _ _ _ _ _ _ _ _ _ _ _ _)
   | (with_reducible exact ih1 _ _ _ _ _ _ _ _ _ _ _ _ _ _)
   | (with_reducible exact ih2 _ _ _ _ _)
   | (with_reducible exact impl_LessGates.mono _ _ _ _ _ _)
   | (with_reducible exact laws_eqCircuit.mono _ _ _ _ _ _ _)
   | (with_reducible exact laws_eqIntS.mono _ _ _)
   | (with_reducible exact laws_heldCircuit.mono _ _ _ _ _)
   | (with_reducible exact laws_markCircuit.mono _ _ _ _ _)
   | (with_reducible exact laws_markIntS.mono _ _ _)
   | (with_reducible exact laws_toCircuit.mono _ _ _ _)
   | (with_reducible exact laws_toIntS.mono _ _)
   | (with_reducible exact spec_LessGates.mono _ _ _ _ _ _)
   | (with_reducible first | exact LeO.refl _ | exact LeO.none _ | refine LeO.ite ?_ ?_ | refine LeO.bind ?_ (fun _ => ?_))
   | exact ih0 _ _ _ _ _ _ _ _ _ _ _ _ _ _ _ _ _ _ _ _ _
   | exact ih1 _ _ _ _ _ _ _ _ _ _ _ _ _ _
   | exact ih2 _ _ _ _ _
   | exact impl_LessGates.mono _ _ _ _ _ _
   | exact laws_eqCircuit.mono _ _ _ _ _ _ _
   | exact laws_eqIntS.mono _ _ _
   | exact laws_heldCircuit.mono _ _ _ _ _
   | exact laws_markCircuit.mono _ _ _ _ _
   | exact laws_markIntS.mono _ _ _
   | exact laws_toCircuit.mono _ _ _ _
   | exact laws_toIntS.mono _ _
   | exact spec_LessGates.mono _ _ _ _ _ _
   | exact LeO.none _ | refine LeO.ite ?_ ?_ | refine LeO.bind ?_ (fun _ => ?_)
  ·intro y0 y1 y2 y3 y4 y5 y6 y7 y8 y9 y10 y11 y12 y13
   unfold laws_FnExactLessGates.j1
   repeat' first
   | (with_reducible exact ih0 _ _ _ _ _ _ _ _ _ _ _ _ _ _ _ _ _ _ _ _ _)
   | (with_reducible exact ih1 _ _ _ _ _ _ _ _ _ _ _ _ _ _)
   | (with_reducible exact ih2 _ _ _ _ _)
   | (with_reducible exact impl_LessGates.mono _ _ _ _ _ _)
   | (with_reducible exact laws_eqCircuit.mono _ _ _ _ _ _ _)
   | (with_reducible exact laws_eqIntS.mono _ _ _)
   | (with_reducible exact laws_heldCircuit.mono _ _ _ _ _)
   | (with_reducible exact laws_markCircuit.mono _ _ _ _ _)
   | (with_reducible exact laws_markIntS.mono _ _ _)
   | (with_reducible exact laws_toCircuit.mono _ _ _ _)
   | (with_reducible exact laws_toIntS.mono _ _)
   | (with_reducible exact spec_LessGates.mono _ _ _ _ _ _)
   | (with_reducible first | exact LeO.refl _ | exact LeO.none _ | refine LeO.ite ?_ ?_ | refine LeO.bind ?_ (fun _ => ?_))
   | exact ih0 _ _ _ _ _ _ _ _ _ _ _ _ _ _ _ _ _ _ _ _ _
   | exact ih1 _ _ _ _ _ _ _ _ _ _ _ _ _ _
   | exact ih2 _ _ _ _ _
   | exact impl_LessGates.mono _ _ _ _ _ _
   | exact laws_eqCircuit.mono _ _ _ _ _ _ _
   | exact laws_eqIntS.mono _ _ _
   | exact laws_heldCircuit.mono _ _ _ _ _
   | exact laws_markCircuit.mono _ _ _ _ _
   | exact laws_markIntS.mono _ _ _
   | exact laws_toCircuit.mono _ _ _ _
   | exact laws_toIntS.mono _ _
   | exact spec_LessGates.mono _ _ _ _ _ _
   | exact LeO.none _ | refine LeO.ite ?_ ?_ | refine LeO.bind ?_ (fun _ => ?_)
  ·intro y0 y1 y2 y3 y4
   unfold laws_FnExactLessGates.j2
   repeat' first
   | (with_reducible exact ih0 _ _ _ _ _ _ _ _ _ _ _ _ _ _ _ _ _ _ _ _ _)
   | (with_reducible exact ih1 _ _ _ _ _ _ _ _ _ _ _ _ _ _)
   | (with_reducible exact ih2 _ _ _ _ _)
   | (with_reducible exact impl_LessGates.mono _ _ _ _ _ _)
   | (with_reducible exact laws_eqCircuit.mono _ _ _ _ _ _ _)
   | (with_reducible exact laws_eqIntS.mono _ _ _)
   | (with_reducible exact laws_heldCircuit.mono _ _ _ _ _)
   | (with_reducible exact laws_markCircuit.mono _ _ _ _ _)
   | (with_reducible exact laws_markIntS.mono _ _ _)
   | (with_reducible exact laws_toCircuit.mono _ _ _ _)
   | (with_reducible exact laws_toIntS.mono _ _)
   | (with_reducible exact spec_LessGates.mono _ _ _ _ _ _)
   | (with_reducible first | exact LeO.refl _ | exact LeO.none _ | refine LeO.ite ?_ ?_ | refine LeO.bind ?_ (fun _ => ?_))
   | exact ih0 _ _ _ _ _ _ _ _ _ _ _ _ _ _ _ _ _ _ _ _ _
   | exact ih1 _ _ _ _ _ _ _ _ _ _ _ _ _ _
   | exact ih2 _ _ _ _ _
   | exact impl_LessGates.mono _ _ _ _ _ _
   | exact laws_eqCircuit.mono _ _ _ _ _ _ _
   | exact laws_eqIntS.mono _ _ _
   | exact laws_heldCircuit.mono _ _ _ _ _
   | exact laws_markCircuit.mono _ _ _ _ _
   | exact laws_markIntS.mono _ _ _
   | exact laws_toCircuit.mono _ _ _ _
   | exact laws_toIntS.mono _ _
   | exact spec_LessGates.mono _ _ _ _ _ _
   | exact LeO.none _ | refine LeO.ite ?_ ?_ | refine LeO.bind ?_ (fun _ => ?_)
theorem laws_FnExactLessGates.mono : ∀ a0 a1 a2 a3 a4 k, LeO (laws_FnExactLessGates.f k a0 a1 a2 a3 a4) (laws_FnExactLessGates.f (k + 1) a0 a1 a2 a3 a4) := by
 intro a0 a1 a2 a3 a4 k
 obtain ⟨ih0, ih1, ih2⟩ := laws_FnExactLessGates.mono_l k
 unfold laws_FnExactLessGates.f
 repeat' first
   | (with_reducible exact ih0 _ _ _ _ _ _ _ _ _ _ _ _ _ _ _ _ _ _ _ _ _)
   | (with_reducible exact ih1 _ _ _ _ _ _ _ _ _ _ _ _ _ _)
   | (with_reducible exact ih2 _ _ _ _ _)
   | (with_reducible exact impl_LessGates.mono _ _ _ _ _ _)
   | (with_reducible exact laws_eqCircuit.mono _ _ _ _ _ _ _)
   | (with_reducible exact laws_eqIntS.mono _ _ _)
   | (with_reducible exact laws_heldCircuit.mono _ _ _ _ _)
   | (with_reducible exact laws_markCircuit.mono _ _ _ _ _)
   | (with_reducible exact laws_markIntS.mono _ _ _)
   | (with_reducible exact laws_toCircuit.mono _ _ _ _)
   | (with_reducible exact laws_toIntS.mono _ _)
   | (with_reducible exact spec_LessGates.mono _ _ _ _ _ _)
   | (with_reducible first | exact LeO.refl _ | exact LeO.none _ | refine LeO.ite ?_ ?_ | refine LeO.bind ?_ (fun _ => ?_))
   | exact ih0 _ _ _ _ _ _ _ _ _ _ _ _ _ _ _ _ _ _ _ _ _
   | exact ih1 _ _ _ _ _ _ _ _ _ _ _ _ _ _
   | exact ih2 _ _ _ _ _
   | exact impl_LessGates.mono _ _ _ _ _ _
   | exact laws_eqCircuit.mono _ _ _ _ _ _ _
   | exact laws_eqIntS.mono _ _ _
   | exact laws_heldCircuit.mono _ _ _ _ _
   | exact laws_markCircuit.mono _ _ _ _ _
   | exact laws_markIntS.mono _ _ _
   | exact laws_toCircuit.mono _ _ _ _
   | exact laws_toIntS.mono _ _
   | exact spec_LessGates.mono _ _ _ _ _ _
   | exact LeO.none _ | refine LeO.ite ?_ ?_ | refine LeO.bind ?_ (fun _ => ?_)
set_option maxHeartbeats 8000000 in
set_option maxRecDepth 100000 in
theorem laws_FnExactLessGates.calls (k : Nat) (a0_0 : Int) (A0_1 : Option Addr) (c0_1 : Nat) (l0_1 : List (S82)) (A0_2 : Option Addr) (c0_2 : Nat) (l0_2 : List Int) (A1 : Option Addr) (c1 : Nat) (l1 : List Int) (A2 : Option Addr) (c2 : Nat) (l2 : List Int) (r : Bool) (w : World) (hr0_1 : Kd.C k82 w A0_1 l0_1.length l0_1) (hc0_1 : l0_1.length ≤ c0_1) (hr0_2 : Kd.C (Kd.int .i64) w A0_2 l0_2.length l0_2) (hc0_2 : l0_2.length ≤ c0_2) (hr1 : Kd.C (Kd.int .i64) w A1 l1.length l1) (hc1 : l1.length ≤ c1) (hr2 : Kd.C (Kd.int .i64) w A2 l2.length l2) (hc2 : l2.length ≤ c2) (h : laws_FnExactLessGates.f k a0_0 l0_1 l0_2 l1 l2 = some true) :
  Calls Try.prog 9 #[.agg #[.int .i64 a0_0, .slice A0_1 l0_1.length c0_1, .slice A0_2 l0_2.length c0_2], .slice A1 l1.length c1, .slice A2 l2.length c2] w fun e w' => e = .returned (.bool true) ∧ Below w.heap.size w w' := by
 have hu25 := Try.underlying25
 have hu30 := Try.underlying30
 have HR0_1 := Aside0.mk hr0_1
 have HC0_1 := Aside0.mk hc0_1
 clear hr0_1 hc0_1
 have HR0_2 := Aside0.mk hr0_2
 have HC0_2 := Aside0.mk hc0_2
 clear hr0_2 hc0_2
 have HR1 := Aside0.mk hr1
 have HC1 := Aside0.mk hc1
 clear hr1 hc1
 have HR2 := Aside0.mk hr2
 have HC2 := Aside0.mk hc2
 clear hr2 hc2
 have HB := Aside0.mk (Below.refl w.heap.size w)
 have H : (if (l1.length : Int) > 1048576 then (some true) else (if (l2.length : Int) > 1048576 then (some true) else ((laws_szCircuit.f a0_0 l0_1 l0_2 1048576).bind fun t826 => (if t826 < 0 then (some true) else ((laws_toCircuit.f k a0_0 l0_1 l0_2).bind fun bt827 => ((laws_toIntS.f k l1).bind fun t834 => ((laws_toIntS.f k l2).bind fun t837 => ((spec_LessGates.f k bt827.1 bt827.2.1 bt827.2.2 t834 t837).bind fun bt840 => ((laws_toCircuit.f k a0_0 l0_1 l0_2).bind fun bt850 => ((laws_toIntS.f k l1).bind fun t858 => ((laws_toIntS.f k l2).bind fun t861 => ((impl_LessGates.f k bt850.1 bt850.2.1 bt850.2.2 t858 t861).bind fun bt864 => ((laws_eqCircuit.f k bt864.1 bt864.2.1 bt864.2.2.1 bt840.1 bt840.2.1 bt840.2.2.1).bind fun t874 => (if t874 = true then (if bt864.2.2.2.1 = bt840.2.2.2.1 then (laws_FnExactLessGates.j0 k l1 l2 bt840.2.2.2.1 bt840.2.2.2.2 t858 t861 bt864.2.2.2.1 bt864.2.2.2.2 (bt864.2.2.2.2 != bt840.2.2.2.2) a0_0 l0_1 l0_2 bt840.1 bt840.2.1 bt840.2.2.1 bt850.1 bt850.2.1 bt850.2.2 bt864.1 bt864.2.1 bt864.2.2.1) else (laws_FnExactLessGates.j0 k l1 l2 bt840.2.2.2.1 bt840.2.2.2.2 t858 t861 bt864.2.2.2.1 bt864.2.2.2.2 true a0_0 l0_1 l0_2 bt840.1 bt840.2.1 bt840.2.2.1 bt850.1 bt850.2.1 bt850.2.2 bt864.1 bt864.2.1 bt864.2.2.1)) else (laws_FnExactLessGates.j0 k l1 l2 bt840.2.2.2.1 bt840.2.2.2.2 t858 t861 bt864.2.2.2.1 bt864.2.2.2.2 true a0_0 l0_1 l0_2 bt840.1 bt840.2.1 bt840.2.2.1 bt850.1 bt850.2.1 bt850.2.2 bt864.1 bt864.2.1 bt864.2.2.1))))))))))))))) = some true := h
 clear h
 by_cases c4 : (l1.length : Int) > 1048576
 ·rw [if_pos c4] at H
  have c4b0 : decide (1048576 < (l1.length : Int)) = true := decide_eq_true c4
  have c4b1 : decide (1048576 < l1.length) = true := decide_eq_true (by omega)
  clear c4
  go_enter Try.func9, Try.ntmps9
  go_wp2_with (first | ((with_reducible refine gate_dst (N := 3) rfl ?_); refine box_event ?hg (N := 3) ?hd (cs := #[.int .i64 a0_0, .slice A0_1 l0_1.length c0_1, .slice A0_2 l0_2.length c0_2]) (t := 25) ?hr ?_; (case hd => rfl); (case hg => rfl); (case hr => first | (go_simp; done) | (go_simp; rfl)); intro gb825 hg w5 hbox hb; have n0_ := Aside0.mk (below_step (qB) hb); have n1_ := Aside0.mk (hbox); have n2_ := Aside0.mk ((by rw [hg]; exact (below_size (qB)) : w.heap.size ≤ gb825)); have n3_ := Aside0.mk ((by rw [hg]; exact (below_size (qB)) : w.heap.size ≤ gb825)); clear HB; have HB := n0_; have BK825 := n1_; have GW825 := n2_; have GE825 := n3_; clear n0_ n1_ n2_ n3_; clear hb hbox hg))
  go_ret
  exact ⟨qE, qB⟩
 ·rw [if_neg c4] at H
  have c4b0 : decide (1048576 < (l1.length : Int)) = false := decide_eq_false c4
  have c4b1 : decide (1048576 < l1.length) = false := decide_eq_false (by omega)
  clear c4
  by_cases c6 : (l2.length : Int) > 1048576
  ·rw [if_pos c6] at H
   have c6b0 : decide (1048576 < (l2.length : Int)) = true := decide_eq_true c6
   have c6b1 : decide (1048576 < l2.length) = true := decide_eq_true (by omega)
   clear c6
   go_enter Try.func9, Try.ntmps9
   go_wp2_with (first | ((with_reducible refine gate_dst (N := 3) rfl ?_); refine box_event ?hg (N := 3) ?hd (cs := #[.int .i64 a0_0, .slice A0_1 l0_1.length c0_1, .slice A0_2 l0_2.length c0_2]) (t := 25) ?hr ?_; (case hd => rfl); (case hg => rfl); (case hr => first | (go_simp; done) | (go_simp; rfl)); intro gb825 hg w7 hbox hb; have n0_ := Aside0.mk (below_step (qB) hb); have n1_ := Aside0.mk (hbox); have n2_ := Aside0.mk ((by rw [hg]; exact (below_size (qB)) : w.heap.size ≤ gb825)); have n3_ := Aside0.mk ((by rw [hg]; exact (below_size (qB)) : w.heap.size ≤ gb825)); clear HB; have HB := n0_; have BK825 := n1_; have GW825 := n2_; have GE825 := n3_; clear n0_ n1_ n2_ n3_; clear hb hbox hg))
   go_ret
   exact ⟨qE, qB⟩
  ·rw [if_neg c6] at H
   have c6b0 : decide (1048576 < (l2.length : Int)) = false := decide_eq_false c6
   have c6b1 : decide (1048576 < l2.length) = false := decide_eq_false (by omega)
   clear c6
   replace H := Option.bind_eq_some_iff.mp H
   obtain ⟨t826, A80, H⟩ := H
   replace H : (if t826 < 0 then (some true) else ((laws_toCircuit.f k a0_0 l0_1 l0_2).bind fun bt827 => ((laws_toIntS.f k l1).bind fun t834 => ((laws_toIntS.f k l2).bind fun t837 => ((spec_LessGates.f k bt827.1 bt827.2.1 bt827.2.2 t834 t837).bind fun bt840 => ((laws_toCircuit.f k a0_0 l0_1 l0_2).bind fun bt850 => ((laws_toIntS.f k l1).bind fun t858 => ((laws_toIntS.f k l2).bind fun t861 => ((impl_LessGates.f k bt850.1 bt850.2.1 bt850.2.2 t858 t861).bind fun bt864 => ((laws_eqCircuit.f k bt864.1 bt864.2.1 bt864.2.2.1 bt840.1 bt840.2.1 bt840.2.2.1).bind fun t874 => (if t874 = true then (if bt864.2.2.2.1 = bt840.2.2.2.1 then (laws_FnExactLessGates.j0 k l1 l2 bt840.2.2.2.1 bt840.2.2.2.2 t858 t861 bt864.2.2.2.1 bt864.2.2.2.2 (bt864.2.2.2.2 != bt840.2.2.2.2) a0_0 l0_1 l0_2 bt840.1 bt840.2.1 bt840.2.2.1 bt850.1 bt850.2.1 bt850.2.2 bt864.1 bt864.2.1 bt864.2.2.1) else (laws_FnExactLessGates.j0 k l1 l2 bt840.2.2.2.1 bt840.2.2.2.2 t858 t861 bt864.2.2.2.1 bt864.2.2.2.2 true a0_0 l0_1 l0_2 bt840.1 bt840.2.1 bt840.2.2.1 bt850.1 bt850.2.1 bt850.2.2 bt864.1 bt864.2.1 bt864.2.2.1)) else (laws_FnExactLessGates.j0 k l1 l2 bt840.2.2.2.1 bt840.2.2.2.2 t858 t861 bt864.2.2.2.1 bt864.2.2.2.2 true a0_0 l0_1 l0_2 bt840.1 bt840.2.1 bt840.2.2.1 bt850.1 bt850.2.1 bt850.2.2 bt864.1 bt864.2.1 bt864.2.2.1)))))))))))) = some true := H
   have A8 := Aside0.mk A80
   clear A80
   by_cases c9 : t826 < 0
   ·rw [if_pos c9] at H
    have c9b0 : decide (t826 < 0) = true := decide_eq_true c9
    clear c9
    go_enter Try.func9, Try.ntmps9
    go_wp2_with (first | ((with_reducible refine gate_dst (N := 3) rfl ?_); refine box_event ?hg (N := 3) ?hd (cs := #[.int .i64 a0_0, .slice A0_1 l0_1.length c0_1, .slice A0_2 l0_2.length c0_2]) (t := 25) ?hr ?_; (case hd => rfl); (case hg => rfl); (case hr => first | (go_simp; done) | (go_simp; rfl)); intro gb825 hg w10 hbox hb; have n0_ := Aside0.mk (below_step (qB) hb); have n1_ := Aside0.mk (hbox); have n2_ := Aside0.mk ((by rw [hg]; exact (below_size (qB)) : w.heap.size ≤ gb825)); have n3_ := Aside0.mk ((by rw [hg]; exact (below_size (qB)) : w.heap.size ≤ gb825)); clear HB; have HB := n0_; have BK825 := n1_; have GW825 := n2_; have GE825 := n3_; clear n0_ n1_ n2_ n3_; clear hb hbox hg; have hcz11_0 : w10.cell? ⟨gb825, 0, none⟩ = some (.int .i64 a0_0) := (blk_cell BK825.out 0).trans rfl; have hcz11_1 : w10.cell? ⟨gb825, 1, none⟩ = some (.slice A0_1 l0_1.length c0_1) := (blk_cell BK825.out 1).trans rfl; have hcz11_2 : w10.cell? ⟨gb825, 2, none⟩ = some (.slice A0_2 l0_2.length c0_2) := (blk_cell BK825.out 2).trans rfl; have hfz11_0 := blk_frozen BK825.out 0; have hfz11_1 := blk_frozen BK825.out 1; have hfz11_2 := blk_frozen BK825.out 2) | ((with_reducible refine gate_callee (f := 11) rfl ?_); refine goesL_ (some 31) rfl rfl Try.func11 (by kernel_rfl) rfl #[.agg #[.int .i64 a0_0, .slice A0_1 l0_1.length c0_1, .slice A0_2 l0_2.length c0_2], .int .i64 1048576] rfl qG ?_; (with_reducible refine (laws_szCircuit.calls a0_0 _ _ l0_1 _ _ l0_2 1048576 t826 _ ?side1 ?side2 ?side3 ?side4 A8.out).mono ?_); (case side1 => exact qC (Kd.C_below HR0_1.out HB.out)); (case side2 => exact HC0_1.out); (case side3 => exact qC (Kd.C_below HR0_2.out HB.out)); (case side4 => exact HC0_2.out); rintro e w12 ⟨rfl, hb⟩; refine ⟨_, rfl, ?_⟩; have n0_ := Aside0.mk (blk_below (g := gb825) (o := .cells #[.int .i64 a0_0, .slice A0_1 l0_1.length c0_1, .slice A0_2 l0_2.length c0_2] 25 (0, 0)) (qK BK825.out) hb); have n1_ := Aside0.mk (below_step (qB) hb); clear BK825; clear HB; have BK825 := n0_; have HB := n1_; clear n0_ n1_; (try clear hb); (try clear hb2); (try clear hk); (try clear hi)))
    go_ret
    exact ⟨qE, qB⟩
   ·rw [if_neg c9] at H
    have c9b0 : decide (t826 < 0) = false := decide_eq_false c9
    clear c9
    replace H := Option.bind_eq_some_iff.mp H
    obtain ⟨⟨t827, t828, t831⟩, A130, H⟩ := H
    replace H : ((laws_toIntS.f k l1).bind fun t834 => ((laws_toIntS.f k l2).bind fun t837 => ((spec_LessGates.f k t827 t828 t831 t834 t837).bind fun bt840 => ((laws_toCircuit.f k a0_0 l0_1 l0_2).bind fun bt850 => ((laws_toIntS.f k l1).bind fun t858 => ((laws_toIntS.f k l2).bind fun t861 => ((impl_LessGates.f k bt850.1 bt850.2.1 bt850.2.2 t858 t861).bind fun bt864 => ((laws_eqCircuit.f k bt864.1 bt864.2.1 bt864.2.2.1 bt840.1 bt840.2.1 bt840.2.2.1).bind fun t874 => (if t874 = true then (if bt864.2.2.2.1 = bt840.2.2.2.1 then (laws_FnExactLessGates.j0 k l1 l2 bt840.2.2.2.1 bt840.2.2.2.2 t858 t861 bt864.2.2.2.1 bt864.2.2.2.2 (bt864.2.2.2.2 != bt840.2.2.2.2) a0_0 l0_1 l0_2 bt840.1 bt840.2.1 bt840.2.2.1 bt850.1 bt850.2.1 bt850.2.2 bt864.1 bt864.2.1 bt864.2.2.1) else (laws_FnExactLessGates.j0 k l1 l2 bt840.2.2.2.1 bt840.2.2.2.2 t858 t861 bt864.2.2.2.1 bt864.2.2.2.2 true a0_0 l0_1 l0_2 bt840.1 bt840.2.1 bt840.2.2.1 bt850.1 bt850.2.1 bt850.2.2 bt864.1 bt864.2.1 bt864.2.2.1)) else (laws_FnExactLessGates.j0 k l1 l2 bt840.2.2.2.1 bt840.2.2.2.2 t858 t861 bt864.2.2.2.1 bt864.2.2.2.2 true a0_0 l0_1 l0_2 bt840.1 bt840.2.1 bt840.2.2.1 bt850.1 bt850.2.1 bt850.2.2 bt864.1 bt864.2.1 bt864.2.2.1)))))))))) = some true := H
    have A13 := Aside0.mk A130
    clear A130
    replace H := Option.bind_eq_some_iff.mp H
    obtain ⟨t834, A140, H⟩ := H
    replace H : ((laws_toIntS.f k l2).bind fun t837 => ((spec_LessGates.f k t827 t828 t831 t834 t837).bind fun bt840 => ((laws_toCircuit.f k a0_0 l0_1 l0_2).bind fun bt850 => ((laws_toIntS.f k l1).bind fun t858 => ((laws_toIntS.f k l2).bind fun t861 => ((impl_LessGates.f k bt850.1 bt850.2.1 bt850.2.2 t858 t861).bind fun bt864 => ((laws_eqCircuit.f k bt864.1 bt864.2.1 bt864.2.2.1 bt840.1 bt840.2.1 bt840.2.2.1).bind fun t874 => (if t874 = true then (if bt864.2.2.2.1 = bt840.2.2.2.1 then (laws_FnExactLessGates.j0 k l1 l2 bt840.2.2.2.1 bt840.2.2.2.2 t858 t861 bt864.2.2.2.1 bt864.2.2.2.2 (bt864.2.2.2.2 != bt840.2.2.2.2) a0_0 l0_1 l0_2 bt840.1 bt840.2.1 bt840.2.2.1 bt850.1 bt850.2.1 bt850.2.2 bt864.1 bt864.2.1 bt864.2.2.1) else (laws_FnExactLessGates.j0 k l1 l2 bt840.2.2.2.1 bt840.2.2.2.2 t858 t861 bt864.2.2.2.1 bt864.2.2.2.2 true a0_0 l0_1 l0_2 bt840.1 bt840.2.1 bt840.2.2.1 bt850.1 bt850.2.1 bt850.2.2 bt864.1 bt864.2.1 bt864.2.2.1)) else (laws_FnExactLessGates.j0 k l1 l2 bt840.2.2.2.1 bt840.2.2.2.2 t858 t861 bt864.2.2.2.1 bt864.2.2.2.2 true a0_0 l0_1 l0_2 bt840.1 bt840.2.1 bt840.2.2.1 bt850.1 bt850.2.1 bt850.2.2 bt864.1 bt864.2.1 bt864.2.2.1))))))))) = some true := H
    have A14 := Aside0.mk A140
    clear A140
    replace H := Option.bind_eq_some_iff.mp H
    obtain ⟨t837, A150, H⟩ := H
    replace H : ((spec_LessGates.f k t827 t828 t831 t834 t837).bind fun bt840 => ((laws_toCircuit.f k a0_0 l0_1 l0_2).bind fun bt850 => ((laws_toIntS.f k l1).bind fun t858 => ((laws_toIntS.f k l2).bind fun t861 => ((impl_LessGates.f k bt850.1 bt850.2.1 bt850.2.2 t858 t861).bind fun bt864 => ((laws_eqCircuit.f k bt864.1 bt864.2.1 bt864.2.2.1 bt840.1 bt840.2.1 bt840.2.2.1).bind fun t874 => (if t874 = true then (if bt864.2.2.2.1 = bt840.2.2.2.1 then (laws_FnExactLessGates.j0 k l1 l2 bt840.2.2.2.1 bt840.2.2.2.2 t858 t861 bt864.2.2.2.1 bt864.2.2.2.2 (bt864.2.2.2.2 != bt840.2.2.2.2) a0_0 l0_1 l0_2 bt840.1 bt840.2.1 bt840.2.2.1 bt850.1 bt850.2.1 bt850.2.2 bt864.1 bt864.2.1 bt864.2.2.1) else (laws_FnExactLessGates.j0 k l1 l2 bt840.2.2.2.1 bt840.2.2.2.2 t858 t861 bt864.2.2.2.1 bt864.2.2.2.2 true a0_0 l0_1 l0_2 bt840.1 bt840.2.1 bt840.2.2.1 bt850.1 bt850.2.1 bt850.2.2 bt864.1 bt864.2.1 bt864.2.2.1)) else (laws_FnExactLessGates.j0 k l1 l2 bt840.2.2.2.1 bt840.2.2.2.2 t858 t861 bt864.2.2.2.1 bt864.2.2.2.2 true a0_0 l0_1 l0_2 bt840.1 bt840.2.1 bt840.2.2.1 bt850.1 bt850.2.1 bt850.2.2 bt864.1 bt864.2.1 bt864.2.2.1)))))))) = some true := H
    have A15 := Aside0.mk A150
    clear A150
    replace H := Option.bind_eq_some_iff.mp H
    obtain ⟨⟨t840, t841, t844, t847, t848⟩, A160, H⟩ := H
    replace H : ((laws_toCircuit.f k a0_0 l0_1 l0_2).bind fun bt850 => ((laws_toIntS.f k l1).bind fun t858 => ((laws_toIntS.f k l2).bind fun t861 => ((impl_LessGates.f k bt850.1 bt850.2.1 bt850.2.2 t858 t861).bind fun bt864 => ((laws_eqCircuit.f k bt864.1 bt864.2.1 bt864.2.2.1 t840 t841 t844).bind fun t874 => (if t874 = true then (if bt864.2.2.2.1 = t847 then (laws_FnExactLessGates.j0 k l1 l2 t847 t848 t858 t861 bt864.2.2.2.1 bt864.2.2.2.2 (bt864.2.2.2.2 != t848) a0_0 l0_1 l0_2 t840 t841 t844 bt850.1 bt850.2.1 bt850.2.2 bt864.1 bt864.2.1 bt864.2.2.1) else (laws_FnExactLessGates.j0 k l1 l2 t847 t848 t858 t861 bt864.2.2.2.1 bt864.2.2.2.2 true a0_0 l0_1 l0_2 t840 t841 t844 bt850.1 bt850.2.1 bt850.2.2 bt864.1 bt864.2.1 bt864.2.2.1)) else (laws_FnExactLessGates.j0 k l1 l2 t847 t848 t858 t861 bt864.2.2.2.1 bt864.2.2.2.2 true a0_0 l0_1 l0_2 t840 t841 t844 bt850.1 bt850.2.1 bt850.2.2 bt864.1 bt864.2.1 bt864.2.2.1))))))) = some true := H
    have A16 := Aside0.mk A160
    clear A160
    replace H := Option.bind_eq_some_iff.mp H
    obtain ⟨⟨t850, t851, t854⟩, A170, H⟩ := H
    replace H : ((laws_toIntS.f k l1).bind fun t858 => ((laws_toIntS.f k l2).bind fun t861 => ((impl_LessGates.f k t850 t851 t854 t858 t861).bind fun bt864 => ((laws_eqCircuit.f k bt864.1 bt864.2.1 bt864.2.2.1 t840 t841 t844).bind fun t874 => (if t874 = true then (if bt864.2.2.2.1 = t847 then (laws_FnExactLessGates.j0 k l1 l2 t847 t848 t858 t861 bt864.2.2.2.1 bt864.2.2.2.2 (bt864.2.2.2.2 != t848) a0_0 l0_1 l0_2 t840 t841 t844 t850 t851 t854 bt864.1 bt864.2.1 bt864.2.2.1) else (laws_FnExactLessGates.j0 k l1 l2 t847 t848 t858 t861 bt864.2.2.2.1 bt864.2.2.2.2 true a0_0 l0_1 l0_2 t840 t841 t844 t850 t851 t854 bt864.1 bt864.2.1 bt864.2.2.1)) else (laws_FnExactLessGates.j0 k l1 l2 t847 t848 t858 t861 bt864.2.2.2.1 bt864.2.2.2.2 true a0_0 l0_1 l0_2 t840 t841 t844 t850 t851 t854 bt864.1 bt864.2.1 bt864.2.2.1)))))) = some true := H
    have A17 := Aside0.mk A170
    clear A170
    replace H := Option.bind_eq_some_iff.mp H
    obtain ⟨t858, A180, H⟩ := H
    replace H : ((laws_toIntS.f k l2).bind fun t861 => ((impl_LessGates.f k t850 t851 t854 t858 t861).bind fun bt864 => ((laws_eqCircuit.f k bt864.1 bt864.2.1 bt864.2.2.1 t840 t841 t844).bind fun t874 => (if t874 = true then (if bt864.2.2.2.1 = t847 then (laws_FnExactLessGates.j0 k l1 l2 t847 t848 t858 t861 bt864.2.2.2.1 bt864.2.2.2.2 (bt864.2.2.2.2 != t848) a0_0 l0_1 l0_2 t840 t841 t844 t850 t851 t854 bt864.1 bt864.2.1 bt864.2.2.1) else (laws_FnExactLessGates.j0 k l1 l2 t847 t848 t858 t861 bt864.2.2.2.1 bt864.2.2.2.2 true a0_0 l0_1 l0_2 t840 t841 t844 t850 t851 t854 bt864.1 bt864.2.1 bt864.2.2.1)) else (laws_FnExactLessGates.j0 k l1 l2 t847 t848 t858 t861 bt864.2.2.2.1 bt864.2.2.2.2 true a0_0 l0_1 l0_2 t840 t841 t844 t850 t851 t854 bt864.1 bt864.2.1 bt864.2.2.1))))) = some true := H
    have A18 := Aside0.mk A180
    clear A180
    replace H := Option.bind_eq_some_iff.mp H
    obtain ⟨t861, A190, H⟩ := H
    replace H : ((impl_LessGates.f k t850 t851 t854 t858 t861).bind fun bt864 => ((laws_eqCircuit.f k bt864.1 bt864.2.1 bt864.2.2.1 t840 t841 t844).bind fun t874 => (if t874 = true then (if bt864.2.2.2.1 = t847 then (laws_FnExactLessGates.j0 k l1 l2 t847 t848 t858 t861 bt864.2.2.2.1 bt864.2.2.2.2 (bt864.2.2.2.2 != t848) a0_0 l0_1 l0_2 t840 t841 t844 t850 t851 t854 bt864.1 bt864.2.1 bt864.2.2.1) else (laws_FnExactLessGates.j0 k l1 l2 t847 t848 t858 t861 bt864.2.2.2.1 bt864.2.2.2.2 true a0_0 l0_1 l0_2 t840 t841 t844 t850 t851 t854 bt864.1 bt864.2.1 bt864.2.2.1)) else (laws_FnExactLessGates.j0 k l1 l2 t847 t848 t858 t861 bt864.2.2.2.1 bt864.2.2.2.2 true a0_0 l0_1 l0_2 t840 t841 t844 t850 t851 t854 bt864.1 bt864.2.1 bt864.2.2.1)))) = some true := H
    have A19 := Aside0.mk A190
    clear A190
    replace H := Option.bind_eq_some_iff.mp H
    obtain ⟨⟨t864, t865, t868, t871, t872⟩, A200, H⟩ := H
    replace H : ((laws_eqCircuit.f k t864 t865 t868 t840 t841 t844).bind fun t874 => (if t874 = true then (if t871 = t847 then (laws_FnExactLessGates.j0 k l1 l2 t847 t848 t858 t861 t871 t872 (t872 != t848) a0_0 l0_1 l0_2 t840 t841 t844 t850 t851 t854 t864 t865 t868) else (laws_FnExactLessGates.j0 k l1 l2 t847 t848 t858 t861 t871 t872 true a0_0 l0_1 l0_2 t840 t841 t844 t850 t851 t854 t864 t865 t868)) else (laws_FnExactLessGates.j0 k l1 l2 t847 t848 t858 t861 t871 t872 true a0_0 l0_1 l0_2 t840 t841 t844 t850 t851 t854 t864 t865 t868))) = some true := H
    have A20 := Aside0.mk A200
    clear A200
    have HC21 := Aside0.mk H
    clear H
    go_enter Try.func9, Try.ntmps9
    go_upto_region 14 with (first | ((with_reducible refine gate_dst (N := 3) rfl ?_); refine box_event ?hg (N := 3) ?hd (cs := #[.int .i64 a0_0, .slice A0_1 l0_1.length c0_1, .slice A0_2 l0_2.length c0_2]) (t := 25) ?hr ?_; (case hd => rfl); (case hg => rfl); (case hr => first | (go_simp; done) | (go_simp; rfl)); intro gb825 hg w22 hbox hb; have n0_ := Aside0.mk (below_step (qB) hb); have n1_ := Aside0.mk (hbox); have n2_ := Aside0.mk ((by rw [hg]; exact (below_size (qB)) : w.heap.size ≤ gb825)); have n3_ := Aside0.mk ((by rw [hg]; exact (below_size (qB)) : w.heap.size ≤ gb825)); clear HB; have HB := n0_; have BK825 := n1_; have GW825 := n2_; have GE825 := n3_; clear n0_ n1_ n2_ n3_; clear hb hbox hg; have hcz23_0 : w22.cell? ⟨gb825, 0, none⟩ = some (.int .i64 a0_0) := (blk_cell BK825.out 0).trans rfl; have hcz23_1 : w22.cell? ⟨gb825, 1, none⟩ = some (.slice A0_1 l0_1.length c0_1) := (blk_cell BK825.out 1).trans rfl; have hcz23_2 : w22.cell? ⟨gb825, 2, none⟩ = some (.slice A0_2 l0_2.length c0_2) := (blk_cell BK825.out 2).trans rfl; have hfz23_0 := blk_frozen BK825.out 0; have hfz23_1 := blk_frozen BK825.out 1; have hfz23_2 := blk_frozen BK825.out 2) | ((with_reducible refine gate_callee (f := 11) rfl ?_); refine goesL_ (some 31) rfl rfl Try.func11 (by kernel_rfl) rfl #[.agg #[.int .i64 a0_0, .slice A0_1 l0_1.length c0_1, .slice A0_2 l0_2.length c0_2], .int .i64 1048576] rfl qG ?_; (with_reducible refine (laws_szCircuit.calls a0_0 _ _ l0_1 _ _ l0_2 1048576 t826 _ ?side1 ?side2 ?side3 ?side4 A8.out).mono ?_); (case side1 => exact qC (Kd.C_below HR0_1.out HB.out)); (case side2 => exact HC0_1.out); (case side3 => exact qC (Kd.C_below HR0_2.out HB.out)); (case side4 => exact HC0_2.out); rintro e w24 ⟨rfl, hb⟩; refine ⟨_, rfl, ?_⟩; have n0_ := Aside0.mk (blk_below (g := gb825) (o := .cells #[.int .i64 a0_0, .slice A0_1 l0_1.length c0_1, .slice A0_2 l0_2.length c0_2] 25 (0, 0)) (qK BK825.out) hb); have n1_ := Aside0.mk (below_step (qB) hb); clear BK825; clear HB; have BK825 := n0_; have HB := n1_; clear n0_ n1_; (try clear hb); (try clear hb2); (try clear hk); (try clear hi); have hcz25_0 : w24.cell? ⟨gb825, 0, none⟩ = some (.int .i64 a0_0) := (blk_cell BK825.out 0).trans rfl; have hcz25_1 : w24.cell? ⟨gb825, 1, none⟩ = some (.slice A0_1 l0_1.length c0_1) := (blk_cell BK825.out 1).trans rfl; have hcz25_2 : w24.cell? ⟨gb825, 2, none⟩ = some (.slice A0_2 l0_2.length c0_2) := (blk_cell BK825.out 2).trans rfl; have hfz25_0 := blk_frozen BK825.out 0; have hfz25_1 := blk_frozen BK825.out 1; have hfz25_2 := blk_frozen BK825.out 2) | ((with_reducible refine gate_callee (f := 13) rfl ?_); refine goesL_ (some 36) rfl rfl Try.func13 (by kernel_rfl) rfl #[.agg #[.int .i64 a0_0, .slice A0_1 l0_1.length c0_1, .slice A0_2 l0_2.length c0_2]] rfl qG ?_; (with_reducible refine (laws_toCircuit.calls k a0_0 _ _ l0_1 _ _ l0_2 t827 t828 t831 _ ?side1 ?side2 ?side3 ?side4 A13.out).mono ?_); (case side1 => exact qC (Kd.C_below HR0_1.out HB.out)); (case side2 => exact HC0_1.out); (case side3 => exact qC (Kd.C_below HR0_2.out HB.out)); (case side4 => exact HC0_2.out); rintro e w26 ⟨v829, v832, rfl, ho0, ho1, hb⟩; refine ⟨_, rfl, ?_⟩; have n0_ := Aside0.mk (Kd.R_lower ho0 (below_size (qB))); have n1_ := Aside0.mk (Kd.R_lower ho1 (below_size (qB))); have n2_ := Aside0.mk (blk_below (g := gb825) (o := .cells #[.int .i64 a0_0, .slice A0_1 l0_1.length c0_1, .slice A0_2 l0_2.length c0_2] 25 (0, 0)) (qK BK825.out) hb); have n3_ := Aside0.mk (below_step (qB) hb); clear BK825; clear HB; have HO830 := n0_; have HO833 := n1_; have BK825 := n2_; have HB := n3_; clear n0_ n1_ n2_ n3_; (try clear hb); (try clear hb2); (try clear hk); (try clear hi); (try clear ho0); (try clear ho1)) | ((with_reducible refine gate_callee (f := 34) rfl ?_); refine goesL_ (some 38) rfl rfl Try.func34 (by kernel_rfl) rfl #[.slice A1 l1.length c1] rfl qG ?_; (with_reducible refine (laws_toIntS.calls k _ _ l1 t834 _ ?side1 ?side2 A14.out).mono ?_); (case side1 => exact qC (Kd.C_below HR1.out HB.out)); (case side2 => exact HC1.out); rintro e w27 ⟨v835, rfl, ho0, hb⟩; refine ⟨_, rfl, ?_⟩; have n0_ := Aside0.mk (Kd.R_below (qR HO830.out) hb); have n1_ := Aside0.mk (Kd.R_elder' (qR HO833.out) (Kd.R_base ho0) hb); have n2_ := Aside0.mk (Kd.R_lower (Kd.R_new' ho0 (Kd.R_lt (qR HO833.out))) (below_size (qB))); have n3_ := Aside0.mk (blk_below (g := gb825) (o := .cells #[.int .i64 a0_0, .slice A0_1 l0_1.length c0_1, .slice A0_2 l0_2.length c0_2] 25 (0, 0)) (qK BK825.out) hb); have n4_ := Aside0.mk (below_step (qB) hb); clear HO830; clear HO833; clear BK825; clear HB; have HO830 := n0_; have HO833 := n1_; have HO836 := n2_; have BK825 := n3_; have HB := n4_; clear n0_ n1_ n2_ n3_ n4_; (try clear hb); (try clear hb2); (try clear hk); (try clear hi); (try clear ho0)) | ((with_reducible refine gate_callee (f := 34) rfl ?_); refine goesL_ (some 40) rfl rfl Try.func34 (by kernel_rfl) rfl #[.slice A2 l2.length c2] rfl qG ?_; (with_reducible refine (laws_toIntS.calls k _ _ l2 t837 _ ?side1 ?side2 A15.out).mono ?_); (case side1 => exact qC (Kd.C_below HR2.out HB.out)); (case side2 => exact HC2.out); rintro e w28 ⟨v838, rfl, ho0, hb⟩; refine ⟨_, rfl, ?_⟩; have n0_ := Aside0.mk (Kd.R_below (qR HO830.out) hb); have n1_ := Aside0.mk (Kd.R_elder' (qR HO833.out) (Kd.R_base ho0) hb); have n2_ := Aside0.mk (Kd.R_elder' (qR HO836.out) (Kd.R_base ho0) hb); have n3_ := Aside0.mk (Kd.R_lower (Kd.R_new' (Kd.R_new' ho0 (Kd.R_lt (qR HO833.out))) (Kd.R_lt (qR HO836.out))) (below_size (qB))); have n4_ := Aside0.mk (blk_below (g := gb825) (o := .cells #[.int .i64 a0_0, .slice A0_1 l0_1.length c0_1, .slice A0_2 l0_2.length c0_2] 25 (0, 0)) (qK BK825.out) hb); have n5_ := Aside0.mk (below_step (qB) hb); clear HO830; clear HO833; clear HO836; clear BK825; clear HB; have HO830 := n0_; have HO833 := n1_; have HO836 := n2_; have HO839 := n3_; have BK825 := n4_; have HB := n5_; clear n0_ n1_ n2_ n3_ n4_ n5_; (try clear hb); (try clear hb2); (try clear hk); (try clear hi); (try clear ho0); obtain ⟨Ao29, co29, eo29⟩ := Kd.R_slice HO830.out; subst eo29; obtain ⟨Ao30, co30, eo30⟩ := Kd.R_slice HO833.out; subst eo30; obtain ⟨Ao31, co31, eo31⟩ := Kd.R_slice HO836.out; subst eo31; obtain ⟨Ao32, co32, eo32⟩ := Kd.R_slice HO839.out; subst eo32) | ((with_reducible refine gate_callee (f := 36) rfl ?_); refine goesL_ (some 41) rfl rfl Try.func36 (by kernel_rfl) rfl #[.agg #[.int .i64 t827, .slice Ao29 t828.length co29, .slice Ao30 t831.length co30], .slice Ao31 t834.length co31, .slice Ao32 t837.length co32] rfl qG ?_; (with_reducible refine (spec_LessGates.calls k t827 _ _ t828 _ _ t831 _ _ t834 _ _ t837 t840 t841 t844 t847 t848 _ ?side1 ?side2 ?side3 ?side4 ?side5 ?side6 ?side7 ?side8 A16.out).mono ?_); (case side1 => repeat (first | exact (Kd.R_reads' HO830.out).2.2 | (with_reducible refine Kd.C_alloc ?_ _) | (with_reducible refine Kd.C_drewN ?_ _) | (with_reducible refine Kd.C_drew ?_))); (case side2 => exact (Kd.R_reads' HO830.out).2.1); (case side3 => repeat (first | exact (Kd.R_reads' HO833.out).2.2 | (with_reducible refine Kd.C_alloc ?_ _) | (with_reducible refine Kd.C_drewN ?_ _) | (with_reducible refine Kd.C_drew ?_))); (case side4 => exact (Kd.R_reads' HO833.out).2.1); (case side5 => repeat (first | exact (Kd.R_reads' HO836.out).2.2 | (with_reducible refine Kd.C_alloc ?_ _) | (with_reducible refine Kd.C_drewN ?_ _) | (with_reducible refine Kd.C_drew ?_))); (case side6 => exact (Kd.R_reads' HO836.out).2.1); (case side7 => repeat (first | exact (Kd.R_reads' HO839.out).2.2 | (with_reducible refine Kd.C_alloc ?_ _) | (with_reducible refine Kd.C_drewN ?_ _) | (with_reducible refine Kd.C_drew ?_))); (case side8 => exact (Kd.R_reads' HO839.out).2.1); rintro e w33 ⟨v842, v845, rfl, ho0, ho1, hb⟩; refine ⟨_, rfl, ?_⟩; have n0_ := Aside0.mk (Kd.R_elder' (qR HO830.out) (Kd.R_base ho0) hb); have n1_ := Aside0.mk (Kd.R_elder' (qR HO833.out) (Kd.R_base ho1) hb); have n2_ := Aside0.mk (Kd.R_elder' (qR HO836.out) (Kd.R_base ho1) hb); have n3_ := Aside0.mk (Kd.R_elder' (qR HO839.out) (Kd.R_base ho1) hb); have n4_ := Aside0.mk (Kd.R_lower (Kd.R_new' ho0 (Kd.R_lt (qR HO830.out))) (below_size (qB))); have n5_ := Aside0.mk (Kd.R_lower (Kd.R_new' (Kd.R_new' (Kd.R_new' ho1 (Kd.R_lt (qR HO833.out))) (Kd.R_lt (qR HO836.out))) (Kd.R_lt (qR HO839.out))) (below_size (qB))); have n6_ := Aside0.mk (blk_below (g := gb825) (o := .cells #[.int .i64 a0_0, .slice A0_1 l0_1.length c0_1, .slice A0_2 l0_2.length c0_2] 25 (0, 0)) (qK BK825.out) hb); have n7_ := Aside0.mk (below_step (qB) hb); clear HO830; clear HO833; clear HO836; clear HO839; clear BK825; clear HB; have HO830 := n0_; have HO833 := n1_; have HO836 := n2_; have HO839 := n3_; have HO843 := n4_; have HO846 := n5_; have BK825 := n6_; have HB := n7_; clear n0_ n1_ n2_ n3_ n4_ n5_ n6_ n7_; (try clear hb); (try clear hb2); (try clear hk); (try clear hi); (try clear ho0); (try clear ho1)) | ((with_reducible refine gate_dst (N := 8) rfl ?_); refine box_event ?hg (N := 8) ?hd (cs := #[.int .i64 0, .slice none 0 0, .slice none 0 0]) (t := 30) ?hr ?_; (case hd => rfl); (case hg => rfl); (case hr => first | (go_simp; done) | (go_simp; rfl)); intro gb849 hg w34 hbox hb; have n0_ := Aside0.mk (Kd.R_below (qR HO830.out) hb); have n1_ := Aside0.mk (Kd.R_below (qR HO833.out) hb); have n2_ := Aside0.mk (Kd.R_below (qR HO836.out) hb); have n3_ := Aside0.mk (Kd.R_below (qR HO839.out) hb); have n4_ := Aside0.mk (Kd.R_below (qR HO843.out) hb); have n5_ := Aside0.mk (Kd.R_below (qR HO846.out) hb); have n6_ := Aside0.mk (blk_below (g := gb825) (o := .cells #[.int .i64 a0_0, .slice A0_1 l0_1.length c0_1, .slice A0_2 l0_2.length c0_2] 25 (0, 0)) (qK BK825.out) hb); have n7_ := Aside0.mk (below_step (qB) hb); have n8_ := Aside0.mk (hbox); have n9_ := Aside0.mk ((by rw [hg]; exact (below_size (qB)) : w.heap.size ≤ gb849)); have n10_ := Aside0.mk ((by rw [hg]; exact (below_size (qB)) : w.heap.size ≤ gb849)); have n11_ := Aside0.mk ((by rw [hg]; exact Nat.ne_of_lt (blk_lt (g := gb825) (o := .cells #[.int .i64 a0_0, .slice A0_1 l0_1.length c0_1, .slice A0_2 l0_2.length c0_2] 25 (0, 0)) (qK BK825.out)) : gb825 ≠ gb849)); have n12_ := Aside0.mk ((by rw [hg]; exact Nat.ne_of_gt (blk_lt (g := gb825) (o := .cells #[.int .i64 a0_0, .slice A0_1 l0_1.length c0_1, .slice A0_2 l0_2.length c0_2] 25 (0, 0)) (qK BK825.out)) : gb849 ≠ gb825)); clear HO830; clear HO833; clear HO836; clear HO839; clear HO843; clear HO846; clear BK825; clear HB; have HO830 := n0_; have HO833 := n1_; have HO836 := n2_; have HO839 := n3_; have HO843 := n4_; have HO846 := n5_; have BK825 := n6_; have HB := n7_; have BK849 := n8_; have GW849 := n9_; have GE849 := n10_; have NB825_849 := n11_; have NB849_825 := n12_; clear n0_ n1_ n2_ n3_ n4_ n5_ n6_ n7_ n8_ n9_ n10_ n11_ n12_; clear hb hbox hg; have hnb35 := NB849_825.out; have hnc35 := NB825_849.out; have hcz36_0 : w34.cell? ⟨gb849, 0, none⟩ = some (.int .i64 0) := (blk_cell BK849.out 0).trans rfl; have hcz36_1 : w34.cell? ⟨gb849, 1, none⟩ = some (.slice none 0 0) := (blk_cell BK849.out 1).trans rfl; have hcz36_2 : w34.cell? ⟨gb849, 2, none⟩ = some (.slice none 0 0) := (blk_cell BK849.out 2).trans rfl; have hfz36_0 := blk_frozen BK849.out 0; have hfz36_1 := blk_frozen BK849.out 1; have hfz36_2 := blk_frozen BK849.out 2; obtain ⟨Ao37, co37, eo37⟩ := Kd.R_slice HO843.out; subst eo37; obtain ⟨Ao38, co38, eo38⟩ := Kd.R_slice HO846.out; subst eo38; have hcz39_0 : w34.cell? ⟨gb825, 0, none⟩ = some (.int .i64 a0_0) := (blk_cell BK825.out 0).trans rfl; have hcz39_1 : w34.cell? ⟨gb825, 1, none⟩ = some (.slice A0_1 l0_1.length c0_1) := (blk_cell BK825.out 1).trans rfl; have hcz39_2 : w34.cell? ⟨gb825, 2, none⟩ = some (.slice A0_2 l0_2.length c0_2) := (blk_cell BK825.out 2).trans rfl; have hfz39_0 := blk_frozen BK825.out 0; have hfz39_1 := blk_frozen BK825.out 1; have hfz39_2 := blk_frozen BK825.out 2) | ((with_reducible refine gate_callee (f := 13) rfl ?_); refine goesL_ (some 46) rfl rfl Try.func13 (by kernel_rfl) rfl #[.agg #[.int .i64 a0_0, .slice A0_1 l0_1.length c0_1, .slice A0_2 l0_2.length c0_2]] rfl qG ?_; (with_reducible refine (laws_toCircuit.calls k a0_0 _ _ l0_1 _ _ l0_2 t850 t851 t854 _ ?side1 ?side2 ?side3 ?side4 A17.out).mono ?_); (case side1 => exact Kd.C_below HR0_1.out (qB)); (case side2 => exact HC0_1.out); (case side3 => exact Kd.C_below HR0_2.out (qB)); (case side4 => exact HC0_2.out); rintro e w40 ⟨v852, v855, rfl, ho0, ho1, hb⟩; refine ⟨_, rfl, ?_⟩; have n0_ := Aside0.mk (Kd.R_elder' (by (with_reducible repeat (first | apply Kd.R_alloc | apply Kd.R_drewN | apply Kd.R_drew)); exact (Kd.R_mono (Kd.R_far (p := ⟨gb849, 2, none⟩) (Kd.R_far (p := ⟨gb849, 1, none⟩) (Kd.R_far (p := ⟨gb849, 0, none⟩) (Kd.R_types HO830.out BK849.out (by decide)) (fun _ hk => hk.2) (.int .i64 t840)) (fun _ hk => hk.2) (.slice Ao37 t841.length co37)) (fun _ hk => hk.2) (.slice Ao38 t844.length co38)) (fun _ h_ => h_.1))) (Kd.R_base ho0) hb); have n1_ := Aside0.mk (Kd.R_elder' (by (with_reducible repeat (first | apply Kd.R_alloc | apply Kd.R_drewN | apply Kd.R_drew)); exact (Kd.R_mono (Kd.R_far (p := ⟨gb849, 2, none⟩) (Kd.R_far (p := ⟨gb849, 1, none⟩) (Kd.R_far (p := ⟨gb849, 0, none⟩) (Kd.R_types HO833.out BK849.out (by decide)) (fun _ hk => hk.2) (.int .i64 t840)) (fun _ hk => hk.2) (.slice Ao37 t841.length co37)) (fun _ hk => hk.2) (.slice Ao38 t844.length co38)) (fun _ h_ => h_.1))) (Kd.R_base ho1) hb); have n2_ := Aside0.mk (Kd.R_elder' (by (with_reducible repeat (first | apply Kd.R_alloc | apply Kd.R_drewN | apply Kd.R_drew)); exact (Kd.R_mono (Kd.R_far (p := ⟨gb849, 2, none⟩) (Kd.R_far (p := ⟨gb849, 1, none⟩) (Kd.R_far (p := ⟨gb849, 0, none⟩) (Kd.R_types HO836.out BK849.out (by decide)) (fun _ hk => hk.2) (.int .i64 t840)) (fun _ hk => hk.2) (.slice Ao37 t841.length co37)) (fun _ hk => hk.2) (.slice Ao38 t844.length co38)) (fun _ h_ => h_.1))) (Kd.R_base ho1) hb); have n3_ := Aside0.mk (Kd.R_elder' (by (with_reducible repeat (first | apply Kd.R_alloc | apply Kd.R_drewN | apply Kd.R_drew)); exact (Kd.R_mono (Kd.R_far (p := ⟨gb849, 2, none⟩) (Kd.R_far (p := ⟨gb849, 1, none⟩) (Kd.R_far (p := ⟨gb849, 0, none⟩) (Kd.R_types HO839.out BK849.out (by decide)) (fun _ hk => hk.2) (.int .i64 t840)) (fun _ hk => hk.2) (.slice Ao37 t841.length co37)) (fun _ hk => hk.2) (.slice Ao38 t844.length co38)) (fun _ h_ => h_.1))) (Kd.R_base ho1) hb); have n4_ := Aside0.mk (Kd.R_elder' (by (with_reducible repeat (first | apply Kd.R_alloc | apply Kd.R_drewN | apply Kd.R_drew)); exact (Kd.R_mono (Kd.R_far (p := ⟨gb849, 2, none⟩) (Kd.R_far (p := ⟨gb849, 1, none⟩) (Kd.R_far (p := ⟨gb849, 0, none⟩) (Kd.R_types HO843.out BK849.out (by decide)) (fun _ hk => hk.2) (.int .i64 t840)) (fun _ hk => hk.2) (.slice Ao37 t841.length co37)) (fun _ hk => hk.2) (.slice Ao38 t844.length co38)) (fun _ h_ => h_.1))) (Kd.R_base ho0) hb); have n5_ := Aside0.mk (Kd.R_elder' (by (with_reducible repeat (first | apply Kd.R_alloc | apply Kd.R_drewN | apply Kd.R_drew)); exact (Kd.R_mono (Kd.R_far (p := ⟨gb849, 2, none⟩) (Kd.R_far (p := ⟨gb849, 1, none⟩) (Kd.R_far (p := ⟨gb849, 0, none⟩) (Kd.R_types HO846.out BK849.out (by decide)) (fun _ hk => hk.2) (.int .i64 t840)) (fun _ hk => hk.2) (.slice Ao37 t841.length co37)) (fun _ hk => hk.2) (.slice Ao38 t844.length co38)) (fun _ h_ => h_.1))) (Kd.R_base ho1) hb); have n6_ := Aside0.mk (Kd.R_lower (Kd.R_new' (Kd.R_new' ho0 (Kd.R_lt (by (with_reducible repeat (first | apply Kd.R_alloc | apply Kd.R_drewN | apply Kd.R_drew)); exact (Kd.R_mono (Kd.R_far (p := ⟨gb849, 2, none⟩) (Kd.R_far (p := ⟨gb849, 1, none⟩) (Kd.R_far (p := ⟨gb849, 0, none⟩) (Kd.R_types HO830.out BK849.out (by decide)) (fun _ hk => hk.2) (.int .i64 t840)) (fun _ hk => hk.2) (.slice Ao37 t841.length co37)) (fun _ hk => hk.2) (.slice Ao38 t844.length co38)) (fun _ h_ => h_.1))))) (Kd.R_lt (by (with_reducible repeat (first | apply Kd.R_alloc | apply Kd.R_drewN | apply Kd.R_drew)); exact (Kd.R_mono (Kd.R_far (p := ⟨gb849, 2, none⟩) (Kd.R_far (p := ⟨gb849, 1, none⟩) (Kd.R_far (p := ⟨gb849, 0, none⟩) (Kd.R_types HO843.out BK849.out (by decide)) (fun _ hk => hk.2) (.int .i64 t840)) (fun _ hk => hk.2) (.slice Ao37 t841.length co37)) (fun _ hk => hk.2) (.slice Ao38 t844.length co38)) (fun _ h_ => h_.1))))) (below_size (qB))); have n7_ := Aside0.mk (Kd.R_lower (Kd.R_new' (Kd.R_new' (Kd.R_new' (Kd.R_new' ho1 (Kd.R_lt (by (with_reducible repeat (first | apply Kd.R_alloc | apply Kd.R_drewN | apply Kd.R_drew)); exact (Kd.R_mono (Kd.R_far (p := ⟨gb849, 2, none⟩) (Kd.R_far (p := ⟨gb849, 1, none⟩) (Kd.R_far (p := ⟨gb849, 0, none⟩) (Kd.R_types HO833.out BK849.out (by decide)) (fun _ hk => hk.2) (.int .i64 t840)) (fun _ hk => hk.2) (.slice Ao37 t841.length co37)) (fun _ hk => hk.2) (.slice Ao38 t844.length co38)) (fun _ h_ => h_.1))))) (Kd.R_lt (by (with_reducible repeat (first | apply Kd.R_alloc | apply Kd.R_drewN | apply Kd.R_drew)); exact (Kd.R_mono (Kd.R_far (p := ⟨gb849, 2, none⟩) (Kd.R_far (p := ⟨gb849, 1, none⟩) (Kd.R_far (p := ⟨gb849, 0, none⟩) (Kd.R_types HO836.out BK849.out (by decide)) (fun _ hk => hk.2) (.int .i64 t840)) (fun _ hk => hk.2) (.slice Ao37 t841.length co37)) (fun _ hk => hk.2) (.slice Ao38 t844.length co38)) (fun _ h_ => h_.1))))) (Kd.R_lt (by (with_reducible repeat (first | apply Kd.R_alloc | apply Kd.R_drewN | apply Kd.R_drew)); exact (Kd.R_mono (Kd.R_far (p := ⟨gb849, 2, none⟩) (Kd.R_far (p := ⟨gb849, 1, none⟩) (Kd.R_far (p := ⟨gb849, 0, none⟩) (Kd.R_types HO839.out BK849.out (by decide)) (fun _ hk => hk.2) (.int .i64 t840)) (fun _ hk => hk.2) (.slice Ao37 t841.length co37)) (fun _ hk => hk.2) (.slice Ao38 t844.length co38)) (fun _ h_ => h_.1))))) (Kd.R_lt (by (with_reducible repeat (first | apply Kd.R_alloc | apply Kd.R_drewN | apply Kd.R_drew)); exact (Kd.R_mono (Kd.R_far (p := ⟨gb849, 2, none⟩) (Kd.R_far (p := ⟨gb849, 1, none⟩) (Kd.R_far (p := ⟨gb849, 0, none⟩) (Kd.R_types HO846.out BK849.out (by decide)) (fun _ hk => hk.2) (.int .i64 t840)) (fun _ hk => hk.2) (.slice Ao37 t841.length co37)) (fun _ hk => hk.2) (.slice Ao38 t844.length co38)) (fun _ h_ => h_.1))))) (below_size (qB))); have n8_ := Aside0.mk (blk_below (g := gb825) (o := .cells #[.int .i64 a0_0, .slice A0_1 l0_1.length c0_1, .slice A0_2 l0_2.length c0_2] 25 (0, 0)) (qF BK825.out) hb); have n9_ := Aside0.mk (blk_below (g := gb849) (o := .cells #[.int .i64 t840, .slice Ao37 t841.length co37, .slice Ao38 t844.length co38] 30 (0, 0)) (by (with_reducible repeat (first | refine blk_drewN ?_ _ | refine blk_drew ?_ | refine blk_alloc ?_ _)); refine blk_put (cs := #[.int .i64 t840, .slice Ao37 t841.length co37, .slice none 0 0]) ?_ 2 _ rfl; refine blk_put (cs := #[.int .i64 t840, .slice none 0 0, .slice none 0 0]) ?_ 1 _ rfl; refine blk_put (cs := #[.int .i64 0, .slice none 0 0, .slice none 0 0]) ?_ 0 _ rfl; exact qK BK849.out) hb); have n10_ := Aside0.mk (below_step (qB) hb); clear HO830; clear HO833; clear HO836; clear HO839; clear HO843; clear HO846; clear BK825; clear BK849; clear HB; have HO830 := n0_; have HO833 := n1_; have HO836 := n2_; have HO839 := n3_; have HO843 := n4_; have HO846 := n5_; have HO853 := n6_; have HO856 := n7_; have BK825 := n8_; have BK849 := n9_; have HB := n10_; clear n0_ n1_ n2_ n3_ n4_ n5_ n6_ n7_ n8_ n9_ n10_; (try clear hb); (try clear hb2); (try clear hk); (try clear hi); (try clear ho0); (try clear ho1)) | ((with_reducible refine gate_dst (N := 11) rfl ?_); refine box_event ?hg (N := 11) ?hd (cs := #[.int .i64 0, .slice none 0 0, .slice none 0 0]) (t := 30) ?hr ?_; (case hd => rfl); (case hg => rfl); (case hr => first | (go_simp; done) | (go_simp; rfl)); intro gb857 hg w41 hbox hb; have n0_ := Aside0.mk (Kd.R_below (qR HO830.out) hb); have n1_ := Aside0.mk (Kd.R_below (qR HO833.out) hb); have n2_ := Aside0.mk (Kd.R_below (qR HO836.out) hb); have n3_ := Aside0.mk (Kd.R_below (qR HO839.out) hb); have n4_ := Aside0.mk (Kd.R_below (qR HO843.out) hb); have n5_ := Aside0.mk (Kd.R_below (qR HO846.out) hb); have n6_ := Aside0.mk (Kd.R_below (qR HO853.out) hb); have n7_ := Aside0.mk (Kd.R_below (qR HO856.out) hb); have n8_ := Aside0.mk (blk_below (g := gb825) (o := .cells #[.int .i64 a0_0, .slice A0_1 l0_1.length c0_1, .slice A0_2 l0_2.length c0_2] 25 (0, 0)) (qK BK825.out) hb); have n9_ := Aside0.mk (blk_below (g := gb849) (o := .cells #[.int .i64 t840, .slice Ao37 t841.length co37, .slice Ao38 t844.length co38] 30 (0, 0)) (qK BK849.out) hb); have n10_ := Aside0.mk (below_step (qB) hb); have n11_ := Aside0.mk (hbox); have n12_ := Aside0.mk ((by rw [hg]; exact (below_size (qB)) : w.heap.size ≤ gb857)); have n13_ := Aside0.mk ((by rw [hg]; exact (below_size (qB)) : w.heap.size ≤ gb857)); have n14_ := Aside0.mk ((by rw [hg]; exact Nat.ne_of_lt (blk_lt (g := gb825) (o := .cells #[.int .i64 a0_0, .slice A0_1 l0_1.length c0_1, .slice A0_2 l0_2.length c0_2] 25 (0, 0)) (qK BK825.out)) : gb825 ≠ gb857)); have n15_ := Aside0.mk ((by rw [hg]; exact Nat.ne_of_gt (blk_lt (g := gb825) (o := .cells #[.int .i64 a0_0, .slice A0_1 l0_1.length c0_1, .slice A0_2 l0_2.length c0_2] 25 (0, 0)) (qK BK825.out)) : gb857 ≠ gb825)); have n16_ := Aside0.mk ((by rw [hg]; exact Nat.ne_of_lt (blk_lt (g := gb849) (o := .cells #[.int .i64 t840, .slice Ao37 t841.length co37, .slice Ao38 t844.length co38] 30 (0, 0)) (qK BK849.out)) : gb849 ≠ gb857)); have n17_ := Aside0.mk ((by rw [hg]; exact Nat.ne_of_gt (blk_lt (g := gb849) (o := .cells #[.int .i64 t840, .slice Ao37 t841.length co37, .slice Ao38 t844.length co38] 30 (0, 0)) (qK BK849.out)) : gb857 ≠ gb849)); clear HO830; clear HO833; clear HO836; clear HO839; clear HO843; clear HO846; clear HO853; clear HO856; clear BK825; clear BK849; clear HB; have HO830 := n0_; have HO833 := n1_; have HO836 := n2_; have HO839 := n3_; have HO843 := n4_; have HO846 := n5_; have HO853 := n6_; have HO856 := n7_; have BK825 := n8_; have BK849 := n9_; have HB := n10_; have BK857 := n11_; have GW857 := n12_; have GE857 := n13_; have NB825_857 := n14_; have NB857_825 := n15_; have NB849_857 := n16_; have NB857_849 := n17_; clear n0_ n1_ n2_ n3_ n4_ n5_ n6_ n7_ n8_ n9_ n10_ n11_ n12_ n13_ n14_ n15_ n16_ n17_; clear hb hbox hg; have hnb42 := NB857_825.out; have hnc42 := NB825_857.out; have hnb43 := NB857_849.out; have hnc43 := NB849_857.out; have hcz44_0 : w41.cell? ⟨gb857, 0, none⟩ = some (.int .i64 0) := (blk_cell BK857.out 0).trans rfl; have hcz44_1 : w41.cell? ⟨gb857, 1, none⟩ = some (.slice none 0 0) := (blk_cell BK857.out 1).trans rfl; have hcz44_2 : w41.cell? ⟨gb857, 2, none⟩ = some (.slice none 0 0) := (blk_cell BK857.out 2).trans rfl; have hfz44_0 := blk_frozen BK857.out 0; have hfz44_1 := blk_frozen BK857.out 1; have hfz44_2 := blk_frozen BK857.out 2; obtain ⟨Ao45, co45, eo45⟩ := Kd.R_slice HO853.out; subst eo45; obtain ⟨Ao46, co46, eo46⟩ := Kd.R_slice HO856.out; subst eo46) | ((with_reducible refine gate_callee (f := 34) rfl ?_); refine goesL_ (some 48) rfl rfl Try.func34 (by kernel_rfl) rfl #[.slice A1 l1.length c1] rfl qG ?_; (with_reducible refine (laws_toIntS.calls k _ _ l1 t858 _ ?side1 ?side2 A18.out).mono ?_); (case side1 => exact Kd.C_below HR1.out (qB)); (case side2 => exact HC1.out); rintro e w47 ⟨v859, rfl, ho0, hb⟩; refine ⟨_, rfl, ?_⟩; have n0_ := Aside0.mk (Kd.R_below (by (with_reducible repeat (first | apply Kd.R_alloc | apply Kd.R_drewN | apply Kd.R_drew)); exact (Kd.R_mono (Kd.R_far (p := ⟨gb857, 2, none⟩) (Kd.R_far (p := ⟨gb857, 1, none⟩) (Kd.R_far (p := ⟨gb857, 0, none⟩) (Kd.R_types HO830.out BK857.out (by decide)) (fun _ hk => hk.2) (.int .i64 t850)) (fun _ hk => hk.2) (.slice Ao45 t851.length co45)) (fun _ hk => hk.2) (.slice Ao46 t854.length co46)) (fun _ h_ => h_.1))) hb); have n1_ := Aside0.mk (Kd.R_elder' (by (with_reducible repeat (first | apply Kd.R_alloc | apply Kd.R_drewN | apply Kd.R_drew)); exact (Kd.R_mono (Kd.R_far (p := ⟨gb857, 2, none⟩) (Kd.R_far (p := ⟨gb857, 1, none⟩) (Kd.R_far (p := ⟨gb857, 0, none⟩) (Kd.R_types HO833.out BK857.out (by decide)) (fun _ hk => hk.2) (.int .i64 t850)) (fun _ hk => hk.2) (.slice Ao45 t851.length co45)) (fun _ hk => hk.2) (.slice Ao46 t854.length co46)) (fun _ h_ => h_.1))) (Kd.R_base ho0) hb); have n2_ := Aside0.mk (Kd.R_elder' (by (with_reducible repeat (first | apply Kd.R_alloc | apply Kd.R_drewN | apply Kd.R_drew)); exact (Kd.R_mono (Kd.R_far (p := ⟨gb857, 2, none⟩) (Kd.R_far (p := ⟨gb857, 1, none⟩) (Kd.R_far (p := ⟨gb857, 0, none⟩) (Kd.R_types HO836.out BK857.out (by decide)) (fun _ hk => hk.2) (.int .i64 t850)) (fun _ hk => hk.2) (.slice Ao45 t851.length co45)) (fun _ hk => hk.2) (.slice Ao46 t854.length co46)) (fun _ h_ => h_.1))) (Kd.R_base ho0) hb); have n3_ := Aside0.mk (Kd.R_elder' (by (with_reducible repeat (first | apply Kd.R_alloc | apply Kd.R_drewN | apply Kd.R_drew)); exact (Kd.R_mono (Kd.R_far (p := ⟨gb857, 2, none⟩) (Kd.R_far (p := ⟨gb857, 1, none⟩) (Kd.R_far (p := ⟨gb857, 0, none⟩) (Kd.R_types HO839.out BK857.out (by decide)) (fun _ hk => hk.2) (.int .i64 t850)) (fun _ hk => hk.2) (.slice Ao45 t851.length co45)) (fun _ hk => hk.2) (.slice Ao46 t854.length co46)) (fun _ h_ => h_.1))) (Kd.R_base ho0) hb); have n4_ := Aside0.mk (Kd.R_below (by (with_reducible repeat (first | apply Kd.R_alloc | apply Kd.R_drewN | apply Kd.R_drew)); exact (Kd.R_mono (Kd.R_far (p := ⟨gb857, 2, none⟩) (Kd.R_far (p := ⟨gb857, 1, none⟩) (Kd.R_far (p := ⟨gb857, 0, none⟩) (Kd.R_types HO843.out BK857.out (by decide)) (fun _ hk => hk.2) (.int .i64 t850)) (fun _ hk => hk.2) (.slice Ao45 t851.length co45)) (fun _ hk => hk.2) (.slice Ao46 t854.length co46)) (fun _ h_ => h_.1))) hb); have n5_ := Aside0.mk (Kd.R_elder' (by (with_reducible repeat (first | apply Kd.R_alloc | apply Kd.R_drewN | apply Kd.R_drew)); exact (Kd.R_mono (Kd.R_far (p := ⟨gb857, 2, none⟩) (Kd.R_far (p := ⟨gb857, 1, none⟩) (Kd.R_far (p := ⟨gb857, 0, none⟩) (Kd.R_types HO846.out BK857.out (by decide)) (fun _ hk => hk.2) (.int .i64 t850)) (fun _ hk => hk.2) (.slice Ao45 t851.length co45)) (fun _ hk => hk.2) (.slice Ao46 t854.length co46)) (fun _ h_ => h_.1))) (Kd.R_base ho0) hb); have n6_ := Aside0.mk (Kd.R_below (by (with_reducible repeat (first | apply Kd.R_alloc | apply Kd.R_drewN | apply Kd.R_drew)); exact (Kd.R_mono (Kd.R_far (p := ⟨gb857, 2, none⟩) (Kd.R_far (p := ⟨gb857, 1, none⟩) (Kd.R_far (p := ⟨gb857, 0, none⟩) (Kd.R_types HO853.out BK857.out (by decide)) (fun _ hk => hk.2) (.int .i64 t850)) (fun _ hk => hk.2) (.slice Ao45 t851.length co45)) (fun _ hk => hk.2) (.slice Ao46 t854.length co46)) (fun _ h_ => h_.1))) hb); have n7_ := Aside0.mk (Kd.R_elder' (by (with_reducible repeat (first | apply Kd.R_alloc | apply Kd.R_drewN | apply Kd.R_drew)); exact (Kd.R_mono (Kd.R_far (p := ⟨gb857, 2, none⟩) (Kd.R_far (p := ⟨gb857, 1, none⟩) (Kd.R_far (p := ⟨gb857, 0, none⟩) (Kd.R_types HO856.out BK857.out (by decide)) (fun _ hk => hk.2) (.int .i64 t850)) (fun _ hk => hk.2) (.slice Ao45 t851.length co45)) (fun _ hk => hk.2) (.slice Ao46 t854.length co46)) (fun _ h_ => h_.1))) (Kd.R_base ho0) hb); have n8_ := Aside0.mk (Kd.R_lower (Kd.R_new' (Kd.R_new' (Kd.R_new' (Kd.R_new' (Kd.R_new' ho0 (Kd.R_lt (by (with_reducible repeat (first | apply Kd.R_alloc | apply Kd.R_drewN | apply Kd.R_drew)); exact (Kd.R_mono (Kd.R_far (p := ⟨gb857, 2, none⟩) (Kd.R_far (p := ⟨gb857, 1, none⟩) (Kd.R_far (p := ⟨gb857, 0, none⟩) (Kd.R_types HO833.out BK857.out (by decide)) (fun _ hk => hk.2) (.int .i64 t850)) (fun _ hk => hk.2) (.slice Ao45 t851.length co45)) (fun _ hk => hk.2) (.slice Ao46 t854.length co46)) (fun _ h_ => h_.1))))) (Kd.R_lt (by (with_reducible repeat (first | apply Kd.R_alloc | apply Kd.R_drewN | apply Kd.R_drew)); exact (Kd.R_mono (Kd.R_far (p := ⟨gb857, 2, none⟩) (Kd.R_far (p := ⟨gb857, 1, none⟩) (Kd.R_far (p := ⟨gb857, 0, none⟩) (Kd.R_types HO836.out BK857.out (by decide)) (fun _ hk => hk.2) (.int .i64 t850)) (fun _ hk => hk.2) (.slice Ao45 t851.length co45)) (fun _ hk => hk.2) (.slice Ao46 t854.length co46)) (fun _ h_ => h_.1))))) (Kd.R_lt (by (with_reducible repeat (first | apply Kd.R_alloc | apply Kd.R_drewN | apply Kd.R_drew)); exact (Kd.R_mono (Kd.R_far (p := ⟨gb857, 2, none⟩) (Kd.R_far (p := ⟨gb857, 1, none⟩) (Kd.R_far (p := ⟨gb857, 0, none⟩) (Kd.R_types HO839.out BK857.out (by decide)) (fun _ hk => hk.2) (.int .i64 t850)) (fun _ hk => hk.2) (.slice Ao45 t851.length co45)) (fun _ hk => hk.2) (.slice Ao46 t854.length co46)) (fun _ h_ => h_.1))))) (Kd.R_lt (by (with_reducible repeat (first | apply Kd.R_alloc | apply Kd.R_drewN | apply Kd.R_drew)); exact (Kd.R_mono (Kd.R_far (p := ⟨gb857, 2, none⟩) (Kd.R_far (p := ⟨gb857, 1, none⟩) (Kd.R_far (p := ⟨gb857, 0, none⟩) (Kd.R_types HO846.out BK857.out (by decide)) (fun _ hk => hk.2) (.int .i64 t850)) (fun _ hk => hk.2) (.slice Ao45 t851.length co45)) (fun _ hk => hk.2) (.slice Ao46 t854.length co46)) (fun _ h_ => h_.1))))) (Kd.R_lt (by (with_reducible repeat (first | apply Kd.R_alloc | apply Kd.R_drewN | apply Kd.R_drew)); exact (Kd.R_mono (Kd.R_far (p := ⟨gb857, 2, none⟩) (Kd.R_far (p := ⟨gb857, 1, none⟩) (Kd.R_far (p := ⟨gb857, 0, none⟩) (Kd.R_types HO856.out BK857.out (by decide)) (fun _ hk => hk.2) (.int .i64 t850)) (fun _ hk => hk.2) (.slice Ao45 t851.length co45)) (fun _ hk => hk.2) (.slice Ao46 t854.length co46)) (fun _ h_ => h_.1))))) (below_size (qB))); have n9_ := Aside0.mk (blk_below (g := gb825) (o := .cells #[.int .i64 a0_0, .slice A0_1 l0_1.length c0_1, .slice A0_2 l0_2.length c0_2] 25 (0, 0)) (qF BK825.out) hb); have n10_ := Aside0.mk (blk_below (g := gb849) (o := .cells #[.int .i64 t840, .slice Ao37 t841.length co37, .slice Ao38 t844.length co38] 30 (0, 0)) (qF BK849.out) hb); have n11_ := Aside0.mk (blk_below (g := gb857) (o := .cells #[.int .i64 t850, .slice Ao45 t851.length co45, .slice Ao46 t854.length co46] 30 (0, 0)) (by (with_reducible repeat (first | refine blk_drewN ?_ _ | refine blk_drew ?_ | refine blk_alloc ?_ _)); refine blk_put (cs := #[.int .i64 t850, .slice Ao45 t851.length co45, .slice none 0 0]) ?_ 2 _ rfl; refine blk_put (cs := #[.int .i64 t850, .slice none 0 0, .slice none 0 0]) ?_ 1 _ rfl; refine blk_put (cs := #[.int .i64 0, .slice none 0 0, .slice none 0 0]) ?_ 0 _ rfl; exact qK BK857.out) hb); have n12_ := Aside0.mk (below_step (qB) hb); clear HO830; clear HO833; clear HO836; clear HO839; clear HO843; clear HO846; clear HO853; clear HO856; clear BK825; clear BK849; clear BK857; clear HB; have HO830 := n0_; have HO833 := n1_; have HO836 := n2_; have HO839 := n3_; have HO843 := n4_; have HO846 := n5_; have HO853 := n6_; have HO856 := n7_; have HO860 := n8_; have BK825 := n9_; have BK849 := n10_; have BK857 := n11_; have HB := n12_; clear n0_ n1_ n2_ n3_ n4_ n5_ n6_ n7_ n8_ n9_ n10_ n11_ n12_; (try clear hb); (try clear hb2); (try clear hk); (try clear hi); (try clear ho0)) | ((with_reducible refine gate_callee (f := 34) rfl ?_); refine goesL_ (some 50) rfl rfl Try.func34 (by kernel_rfl) rfl #[.slice A2 l2.length c2] rfl qG ?_; (with_reducible refine (laws_toIntS.calls k _ _ l2 t861 _ ?side1 ?side2 A19.out).mono ?_); (case side1 => exact qC (Kd.C_below HR2.out HB.out)); (case side2 => exact HC2.out); rintro e w48 ⟨v862, rfl, ho0, hb⟩; refine ⟨_, rfl, ?_⟩; have n0_ := Aside0.mk (Kd.R_below (qR HO830.out) hb); have n1_ := Aside0.mk (Kd.R_elder' (qR HO833.out) (Kd.R_base ho0) hb); have n2_ := Aside0.mk (Kd.R_elder' (qR HO836.out) (Kd.R_base ho0) hb); have n3_ := Aside0.mk (Kd.R_elder' (qR HO839.out) (Kd.R_base ho0) hb); have n4_ := Aside0.mk (Kd.R_below (qR HO843.out) hb); have n5_ := Aside0.mk (Kd.R_elder' (qR HO846.out) (Kd.R_base ho0) hb); have n6_ := Aside0.mk (Kd.R_below (qR HO853.out) hb); have n7_ := Aside0.mk (Kd.R_elder' (qR HO856.out) (Kd.R_base ho0) hb); have n8_ := Aside0.mk (Kd.R_elder' (qR HO860.out) (Kd.R_base ho0) hb); have n9_ := Aside0.mk (Kd.R_lower (Kd.R_new' (Kd.R_new' (Kd.R_new' (Kd.R_new' (Kd.R_new' (Kd.R_new' ho0 (Kd.R_lt (qR HO833.out))) (Kd.R_lt (qR HO836.out))) (Kd.R_lt (qR HO839.out))) (Kd.R_lt (qR HO846.out))) (Kd.R_lt (qR HO856.out))) (Kd.R_lt (qR HO860.out))) (below_size (qB))); have n10_ := Aside0.mk (blk_below (g := gb825) (o := .cells #[.int .i64 a0_0, .slice A0_1 l0_1.length c0_1, .slice A0_2 l0_2.length c0_2] 25 (0, 0)) (qK BK825.out) hb); have n11_ := Aside0.mk (blk_below (g := gb849) (o := .cells #[.int .i64 t840, .slice Ao37 t841.length co37, .slice Ao38 t844.length co38] 30 (0, 0)) (qK BK849.out) hb); have n12_ := Aside0.mk (blk_below (g := gb857) (o := .cells #[.int .i64 t850, .slice Ao45 t851.length co45, .slice Ao46 t854.length co46] 30 (0, 0)) (qK BK857.out) hb); have n13_ := Aside0.mk (below_step (qB) hb); clear HO830; clear HO833; clear HO836; clear HO839; clear HO843; clear HO846; clear HO853; clear HO856; clear HO860; clear BK825; clear BK849; clear BK857; clear HB; have HO830 := n0_; have HO833 := n1_; have HO836 := n2_; have HO839 := n3_; have HO843 := n4_; have HO846 := n5_; have HO853 := n6_; have HO856 := n7_; have HO860 := n8_; have HO863 := n9_; have BK825 := n10_; have BK849 := n11_; have BK857 := n12_; have HB := n13_; clear n0_ n1_ n2_ n3_ n4_ n5_ n6_ n7_ n8_ n9_ n10_ n11_ n12_ n13_; (try clear hb); (try clear hb2); (try clear hk); (try clear hi); (try clear ho0); have hcz49_0 : w48.cell? ⟨gb857, 0, none⟩ = some (.int .i64 t850) := (blk_cell BK857.out 0).trans rfl; have hcz49_1 : w48.cell? ⟨gb857, 1, none⟩ = some (.slice Ao45 t851.length co45) := (blk_cell BK857.out 1).trans rfl; have hcz49_2 : w48.cell? ⟨gb857, 2, none⟩ = some (.slice Ao46 t854.length co46) := (blk_cell BK857.out 2).trans rfl; have hfz49_0 := blk_frozen BK857.out 0; have hfz49_1 := blk_frozen BK857.out 1; have hfz49_2 := blk_frozen BK857.out 2; obtain ⟨Ao50, co50, eo50⟩ := Kd.R_slice HO860.out; subst eo50; obtain ⟨Ao51, co51, eo51⟩ := Kd.R_slice HO863.out; subst eo51) | ((with_reducible refine gate_callee (f := 37) rfl ?_); refine goesL_ (some 55) rfl rfl Try.func37 (by kernel_rfl) rfl #[.agg #[.int .i64 t850, .slice Ao45 t851.length co45, .slice Ao46 t854.length co46], .slice Ao50 t858.length co50, .slice Ao51 t861.length co51] rfl qG ?_; (with_reducible refine (impl_LessGates.calls k t850 _ _ t851 _ _ t854 _ _ t858 _ _ t861 t864 t865 t868 t871 t872 _ ?side1 ?side2 ?side3 ?side4 ?side5 ?side6 ?side7 ?side8 A20.out).mono ?_); (case side1 => repeat (first | exact (Kd.R_reads' HO853.out).2.2 | (with_reducible refine Kd.C_alloc ?_ _) | (with_reducible refine Kd.C_drewN ?_ _) | (with_reducible refine Kd.C_drew ?_))); (case side2 => exact (Kd.R_reads' HO853.out).2.1); (case side3 => repeat (first | exact (Kd.R_reads' HO856.out).2.2 | (with_reducible refine Kd.C_alloc ?_ _) | (with_reducible refine Kd.C_drewN ?_ _) | (with_reducible refine Kd.C_drew ?_))); (case side4 => exact (Kd.R_reads' HO856.out).2.1); (case side5 => repeat (first | exact (Kd.R_reads' HO860.out).2.2 | (with_reducible refine Kd.C_alloc ?_ _) | (with_reducible refine Kd.C_drewN ?_ _) | (with_reducible refine Kd.C_drew ?_))); (case side6 => exact (Kd.R_reads' HO860.out).2.1); (case side7 => repeat (first | exact (Kd.R_reads' HO863.out).2.2 | (with_reducible refine Kd.C_alloc ?_ _) | (with_reducible refine Kd.C_drewN ?_ _) | (with_reducible refine Kd.C_drew ?_))); (case side8 => exact (Kd.R_reads' HO863.out).2.1); rintro e w52 ⟨v866, v869, rfl, ho0, ho1, hb⟩; refine ⟨_, rfl, ?_⟩; have n0_ := Aside0.mk (Kd.R_elder' (qR HO830.out) (Kd.R_base ho0) hb); have n1_ := Aside0.mk (Kd.R_elder' (qR HO833.out) (Kd.R_base ho1) hb); have n2_ := Aside0.mk (Kd.R_elder' (qR HO836.out) (Kd.R_base ho1) hb); have n3_ := Aside0.mk (Kd.R_elder' (qR HO839.out) (Kd.R_base ho1) hb); have n4_ := Aside0.mk (Kd.R_elder' (qR HO843.out) (Kd.R_base ho0) hb); have n5_ := Aside0.mk (Kd.R_elder' (qR HO846.out) (Kd.R_base ho1) hb); have n6_ := Aside0.mk (Kd.R_elder' (qR HO853.out) (Kd.R_base ho0) hb); have n7_ := Aside0.mk (Kd.R_elder' (qR HO856.out) (Kd.R_base ho1) hb); have n8_ := Aside0.mk (Kd.R_elder' (qR HO860.out) (Kd.R_base ho1) hb); have n9_ := Aside0.mk (Kd.R_elder' (qR HO863.out) (Kd.R_base ho1) hb); have n10_ := Aside0.mk (Kd.R_lower (Kd.R_new' (Kd.R_new' (Kd.R_new' ho0 (Kd.R_lt (qR HO830.out))) (Kd.R_lt (qR HO843.out))) (Kd.R_lt (qR HO853.out))) (below_size (qB))); have n11_ := Aside0.mk (Kd.R_lower (Kd.R_new' (Kd.R_new' (Kd.R_new' (Kd.R_new' (Kd.R_new' (Kd.R_new' (Kd.R_new' ho1 (Kd.R_lt (qR HO833.out))) (Kd.R_lt (qR HO836.out))) (Kd.R_lt (qR HO839.out))) (Kd.R_lt (qR HO846.out))) (Kd.R_lt (qR HO856.out))) (Kd.R_lt (qR HO860.out))) (Kd.R_lt (qR HO863.out))) (below_size (qB))); have n12_ := Aside0.mk (blk_below (g := gb825) (o := .cells #[.int .i64 a0_0, .slice A0_1 l0_1.length c0_1, .slice A0_2 l0_2.length c0_2] 25 (0, 0)) (qK BK825.out) hb); have n13_ := Aside0.mk (blk_below (g := gb849) (o := .cells #[.int .i64 t840, .slice Ao37 t841.length co37, .slice Ao38 t844.length co38] 30 (0, 0)) (qK BK849.out) hb); have n14_ := Aside0.mk (blk_below (g := gb857) (o := .cells #[.int .i64 t850, .slice Ao45 t851.length co45, .slice Ao46 t854.length co46] 30 (0, 0)) (qK BK857.out) hb); have n15_ := Aside0.mk (below_step (qB) hb); clear HO830; clear HO833; clear HO836; clear HO839; clear HO843; clear HO846; clear HO853; clear HO856; clear HO860; clear HO863; clear BK825; clear BK849; clear BK857; clear HB; have HO830 := n0_; have HO833 := n1_; have HO836 := n2_; have HO839 := n3_; have HO843 := n4_; have HO846 := n5_; have HO853 := n6_; have HO856 := n7_; have HO860 := n8_; have HO863 := n9_; have HO867 := n10_; have HO870 := n11_; have BK825 := n12_; have BK849 := n13_; have BK857 := n14_; have HB := n15_; clear n0_ n1_ n2_ n3_ n4_ n5_ n6_ n7_ n8_ n9_ n10_ n11_ n12_ n13_ n14_ n15_; (try clear hb); (try clear hb2); (try clear hk); (try clear hi); (try clear ho0); (try clear ho1)) | ((with_reducible refine gate_dst (N := 14) rfl ?_); refine box_event ?hg (N := 14) ?hd (cs := #[.int .i64 0, .slice none 0 0, .slice none 0 0]) (t := 30) ?hr ?_; (case hd => rfl); (case hg => rfl); (case hr => first | (go_simp; done) | (go_simp; rfl)); intro gb873 hg w53 hbox hb; have n0_ := Aside0.mk (Kd.R_below (qR HO830.out) hb); have n1_ := Aside0.mk (Kd.R_below (qR HO833.out) hb); have n2_ := Aside0.mk (Kd.R_below (qR HO836.out) hb); have n3_ := Aside0.mk (Kd.R_below (qR HO839.out) hb); have n4_ := Aside0.mk (Kd.R_below (qR HO843.out) hb); have n5_ := Aside0.mk (Kd.R_below (qR HO846.out) hb); have n6_ := Aside0.mk (Kd.R_below (qR HO853.out) hb); have n7_ := Aside0.mk (Kd.R_below (qR HO856.out) hb); have n8_ := Aside0.mk (Kd.R_below (qR HO860.out) hb); have n9_ := Aside0.mk (Kd.R_below (qR HO863.out) hb); have n10_ := Aside0.mk (Kd.R_below (qR HO867.out) hb); have n11_ := Aside0.mk (Kd.R_below (qR HO870.out) hb); have n12_ := Aside0.mk (blk_below (g := gb825) (o := .cells #[.int .i64 a0_0, .slice A0_1 l0_1.length c0_1, .slice A0_2 l0_2.length c0_2] 25 (0, 0)) (qK BK825.out) hb); have n13_ := Aside0.mk (blk_below (g := gb849) (o := .cells #[.int .i64 t840, .slice Ao37 t841.length co37, .slice Ao38 t844.length co38] 30 (0, 0)) (qK BK849.out) hb); have n14_ := Aside0.mk (blk_below (g := gb857) (o := .cells #[.int .i64 t850, .slice Ao45 t851.length co45, .slice Ao46 t854.length co46] 30 (0, 0)) (qK BK857.out) hb); have n15_ := Aside0.mk (below_step (qB) hb); have n16_ := Aside0.mk (hbox); have n17_ := Aside0.mk ((by rw [hg]; exact (below_size (qB)) : w.heap.size ≤ gb873)); have n18_ := Aside0.mk ((by rw [hg]; exact (below_size (qB)) : w.heap.size ≤ gb873)); have n19_ := Aside0.mk ((by rw [hg]; exact Nat.ne_of_lt (blk_lt (g := gb825) (o := .cells #[.int .i64 a0_0, .slice A0_1 l0_1.length c0_1, .slice A0_2 l0_2.length c0_2] 25 (0, 0)) (qK BK825.out)) : gb825 ≠ gb873)); have n20_ := Aside0.mk ((by rw [hg]; exact Nat.ne_of_gt (blk_lt (g := gb825) (o := .cells #[.int .i64 a0_0, .slice A0_1 l0_1.length c0_1, .slice A0_2 l0_2.length c0_2] 25 (0, 0)) (qK BK825.out)) : gb873 ≠ gb825)); have n21_ := Aside0.mk ((by rw [hg]; exact Nat.ne_of_lt (blk_lt (g := gb849) (o := .cells #[.int .i64 t840, .slice Ao37 t841.length co37, .slice Ao38 t844.length co38] 30 (0, 0)) (qK BK849.out)) : gb849 ≠ gb873)); have n22_ := Aside0.mk ((by rw [hg]; exact Nat.ne_of_gt (blk_lt (g := gb849) (o := .cells #[.int .i64 t840, .slice Ao37 t841.length co37, .slice Ao38 t844.length co38] 30 (0, 0)) (qK BK849.out)) : gb873 ≠ gb849)); have n23_ := Aside0.mk ((by rw [hg]; exact Nat.ne_of_lt (blk_lt (g := gb857) (o := .cells #[.int .i64 t850, .slice Ao45 t851.length co45, .slice Ao46 t854.length co46] 30 (0, 0)) (qK BK857.out)) : gb857 ≠ gb873)); have n24_ := Aside0.mk ((by rw [hg]; exact Nat.ne_of_gt (blk_lt (g := gb857) (o := .cells #[.int .i64 t850, .slice Ao45 t851.length co45, .slice Ao46 t854.length co46] 30 (0, 0)) (qK BK857.out)) : gb873 ≠ gb857)); clear HO830; clear HO833; clear HO836; clear HO839; clear HO843; clear HO846; clear HO853; clear HO856; clear HO860; clear HO863; clear HO867; clear HO870; clear BK825; clear BK849; clear BK857; clear HB; have HO830 := n0_; have HO833 := n1_; have HO836 := n2_; have HO839 := n3_; have HO843 := n4_; have HO846 := n5_; have HO853 := n6_; have HO856 := n7_; have HO860 := n8_; have HO863 := n9_; have HO867 := n10_; have HO870 := n11_; have BK825 := n12_; have BK849 := n13_; have BK857 := n14_; have HB := n15_; have BK873 := n16_; have GW873 := n17_; have GE873 := n18_; have NB825_873 := n19_; have NB873_825 := n20_; have NB849_873 := n21_; have NB873_849 := n22_; have NB857_873 := n23_; have NB873_857 := n24_; clear n0_ n1_ n2_ n3_ n4_ n5_ n6_ n7_ n8_ n9_ n10_ n11_ n12_ n13_ n14_ n15_ n16_ n17_ n18_ n19_ n20_ n21_ n22_ n23_ n24_; clear hb hbox hg; have hnb54 := NB873_825.out; have hnc54 := NB825_873.out; have hnb55 := NB873_849.out; have hnc55 := NB849_873.out; have hnb56 := NB873_857.out; have hnc56 := NB857_873.out; have hcz57_0 : w53.cell? ⟨gb873, 0, none⟩ = some (.int .i64 0) := (blk_cell BK873.out 0).trans rfl; have hcz57_1 : w53.cell? ⟨gb873, 1, none⟩ = some (.slice none 0 0) := (blk_cell BK873.out 1).trans rfl; have hcz57_2 : w53.cell? ⟨gb873, 2, none⟩ = some (.slice none 0 0) := (blk_cell BK873.out 2).trans rfl; have hfz57_0 := blk_frozen BK873.out 0; have hfz57_1 := blk_frozen BK873.out 1; have hfz57_2 := blk_frozen BK873.out 2; obtain ⟨Ao58, co58, eo58⟩ := Kd.R_slice HO867.out; subst eo58; obtain ⟨Ao59, co59, eo59⟩ := Kd.R_slice HO870.out; subst eo59))
    (try simp only [Act.put, List.setIfInBounds_toArray, List.set_cons_zero, List.set_cons_succ])
    go_cut [72] (fun v72 wc => ∃ (kq : Nat) (x72_20 : Bool), v72 = .bool x72_20 ∧ Aside0 (laws_FnExactLessGates.j0 kq l1 l2 t847 t848 t858 t861 t871 t872 x72_20 a0_0 l0_1 l0_2 t840 t841 t844 t850 t851 t854 t864 t865 t868 = some true) ∧ Aside0 (kq ≤ k) ∧ Aside0 (Kd.R (Kd.int .i64) 3 wc w.heap.size (fun k_ => some k_ ≠ ((.slice Ao51 t861.length co51) : Value).ownBlock ∧ some k_ ≠ ((.slice Ao38 t844.length co38) : Value).ownBlock ∧ some k_ ≠ ((.slice Ao46 t854.length co46) : Value).ownBlock ∧ some k_ ≠ ((.slice Ao59 t868.length co59) : Value).ownBlock) (.slice Ao50 t858.length co50) t858) ∧ Aside0 (Kd.R (Kd.int .i64) 3 wc w.heap.size (fun k_ => some k_ ≠ ((.slice Ao50 t858.length co50) : Value).ownBlock ∧ some k_ ≠ ((.slice Ao38 t844.length co38) : Value).ownBlock ∧ some k_ ≠ ((.slice Ao46 t854.length co46) : Value).ownBlock ∧ some k_ ≠ ((.slice Ao59 t868.length co59) : Value).ownBlock) (.slice Ao51 t861.length co51) t861) ∧ Aside0 (Kd.R k59 59 wc w.heap.size (fun k_ => some k_ ≠ ((.slice Ao45 t851.length co45) : Value).ownBlock ∧ some k_ ≠ ((.slice Ao58 t865.length co58) : Value).ownBlock) (.slice Ao37 t841.length co37) t841) ∧ Aside0 (Kd.R (Kd.int .i64) 3 wc w.heap.size (fun k_ => some k_ ≠ ((.slice Ao50 t858.length co50) : Value).ownBlock ∧ some k_ ≠ ((.slice Ao51 t861.length co51) : Value).ownBlock ∧ some k_ ≠ ((.slice Ao46 t854.length co46) : Value).ownBlock ∧ some k_ ≠ ((.slice Ao59 t868.length co59) : Value).ownBlock) (.slice Ao38 t844.length co38) t844) ∧ Aside0 (Kd.R k59 59 wc w.heap.size (fun k_ => some k_ ≠ ((.slice Ao37 t841.length co37) : Value).ownBlock ∧ some k_ ≠ ((.slice Ao58 t865.length co58) : Value).ownBlock) (.slice Ao45 t851.length co45) t851) ∧ Aside0 (Kd.R (Kd.int .i64) 3 wc w.heap.size (fun k_ => some k_ ≠ ((.slice Ao50 t858.length co50) : Value).ownBlock ∧ some k_ ≠ ((.slice Ao51 t861.length co51) : Value).ownBlock ∧ some k_ ≠ ((.slice Ao38 t844.length co38) : Value).ownBlock ∧ some k_ ≠ ((.slice Ao59 t868.length co59) : Value).ownBlock) (.slice Ao46 t854.length co46) t854) ∧ Aside0 (Kd.R k59 59 wc w.heap.size (fun k_ => some k_ ≠ ((.slice Ao37 t841.length co37) : Value).ownBlock ∧ some k_ ≠ ((.slice Ao45 t851.length co45) : Value).ownBlock) (.slice Ao58 t865.length co58) t865) ∧ Aside0 (Kd.R (Kd.int .i64) 3 wc w.heap.size (fun k_ => some k_ ≠ ((.slice Ao50 t858.length co50) : Value).ownBlock ∧ some k_ ≠ ((.slice Ao51 t861.length co51) : Value).ownBlock ∧ some k_ ≠ ((.slice Ao38 t844.length co38) : Value).ownBlock ∧ some k_ ≠ ((.slice Ao46 t854.length co46) : Value).ownBlock) (.slice Ao59 t868.length co59) t868) ∧ Aside0 (wc.heap[gb825]? = some (.cells #[.int .i64 a0_0, (.slice A0_1 l0_1.length c0_1), (.slice A0_2 l0_2.length c0_2)] 25 (0, 0))) ∧ Aside0 (wc.heap[gb849]? = some (.cells #[.int .i64 t840, (.slice Ao37 t841.length co37), (.slice Ao38 t844.length co38)] 30 (0, 0))) ∧ Aside0 (wc.heap[gb857]? = some (.cells #[.int .i64 t850, (.slice Ao45 t851.length co45), (.slice Ao46 t854.length co46)] 30 (0, 0))) ∧ Aside0 (wc.heap[gb873]? = some (.cells #[.int .i64 t864, (.slice Ao58 t865.length co58), (.slice Ao59 t868.length co59)] 30 (0, 0))) ∧ Aside0 (Below w.heap.size w wc))
    case first =>
     have H := HC21.out
     clear HC21
     replace H := Option.bind_eq_some_iff.mp H
     obtain ⟨t874, A600, H⟩ := H
     replace H : (if t874 = true then (if t871 = t847 then (laws_FnExactLessGates.j0 k l1 l2 t847 t848 t858 t861 t871 t872 (t872 != t848) a0_0 l0_1 l0_2 t840 t841 t844 t850 t851 t854 t864 t865 t868) else (laws_FnExactLessGates.j0 k l1 l2 t847 t848 t858 t861 t871 t872 true a0_0 l0_1 l0_2 t840 t841 t844 t850 t851 t854 t864 t865 t868)) else (laws_FnExactLessGates.j0 k l1 l2 t847 t848 t858 t861 t871 t872 true a0_0 l0_1 l0_2 t840 t841 t844 t850 t851 t854 t864 t865 t868)) = some true := H
     have A60 := Aside0.mk A600
     clear A600
     by_cases c61 : t874 = true
     ·subst c61
      have H1 : (if t871 = t847 then (laws_FnExactLessGates.j0 k l1 l2 t847 t848 t858 t861 t871 t872 (t872 != t848) a0_0 l0_1 l0_2 t840 t841 t844 t850 t851 t854 t864 t865 t868) else (laws_FnExactLessGates.j0 k l1 l2 t847 t848 t858 t861 t871 t872 true a0_0 l0_1 l0_2 t840 t841 t844 t850 t851 t854 t864 t865 t868)) = some true := by rw [if_pos rfl] at H; exact H
      clear H
      have H := H1
      clear H1
      by_cases c62 : t871 = t847
      ·rw [if_pos c62] at H
       have c62b0 : (t871 == t847) = true := beq_iff_eq.mpr c62
       have c62b1 : (t871 != t847) = false := bne_eq_false_iff_eq.mpr c62
       clear c62
       (first | rw [c62b0] | (simp only [i64_w, i32_w]; rw [c62b0]) | skip)
       have H' := Aside0.mk H
       clear H
       have hnb63 := NB873_825.out
       have hnc63 := NB825_873.out
       have hnb64 := NB873_849.out
       have hnc64 := NB849_873.out
       have hnb65 := NB873_857.out
       have hnc65 := NB857_873.out
       have hcz66_0 : w53.cell? ⟨gb873, 0, none⟩ = some (.int .i64 0) := (blk_cell BK873.out 0).trans rfl
       have hcz66_1 : w53.cell? ⟨gb873, 1, none⟩ = some (.slice none 0 0) := (blk_cell BK873.out 1).trans rfl
       have hcz66_2 : w53.cell? ⟨gb873, 2, none⟩ = some (.slice none 0 0) := (blk_cell BK873.out 2).trans rfl
       have hfz66_0 := blk_frozen BK873.out 0
       have hfz66_1 := blk_frozen BK873.out 1
       have hfz66_2 := blk_frozen BK873.out 2
       have hnb67 := NB849_825.out
       have hnc67 := NB825_849.out
       have hnb68 := NB849_857.out
       have hnc68 := NB857_849.out
       have hcz69_0 : w53.cell? ⟨gb849, 0, none⟩ = some (.int .i64 t840) := (blk_cell BK849.out 0).trans rfl
       have hcz69_1 : w53.cell? ⟨gb849, 1, none⟩ = some (.slice Ao37 t841.length co37) := (blk_cell BK849.out 1).trans rfl
       have hcz69_2 : w53.cell? ⟨gb849, 2, none⟩ = some (.slice Ao38 t844.length co38) := (blk_cell BK849.out 2).trans rfl
       have hfz69_0 := blk_frozen BK849.out 0
       have hfz69_1 := blk_frozen BK849.out 1
       have hfz69_2 := blk_frozen BK849.out 2
       go_wp2_with (first | ((with_reducible refine gate_callee (f := 15) rfl ?_); refine goesL_ (some 61) rfl rfl Try.func15 (by kernel_rfl) rfl #[.agg #[.int .i64 t864, .slice Ao58 t865.length co58, .slice Ao59 t868.length co59], .agg #[.int .i64 t840, .slice Ao37 t841.length co37, .slice Ao38 t844.length co38]] rfl qG ?_; (with_reducible refine (laws_eqCircuit.calls k t864 _ _ t865 _ _ t868 t840 _ _ t841 _ _ t844 true _ ?side1 ?side2 ?side3 ?side4 ?side5 ?side6 ?side7 ?side8 A60.out).mono ?_); (case side1 => refine (Kd.R_reads' (e := 59) (base := w.heap.size) (ok := fun k_ => (((True ∧ some k_ ≠ (.slice Ao29 t828.length co29 : Value).ownBlock) ∧ some k_ ≠ (.slice Ao37 t841.length co37 : Value).ownBlock) ∧ some k_ ≠ (.slice Ao45 t851.length co45 : Value).ownBlock)) (n := t865.length) (c := co58) ?_).2.2; exact (by (with_reducible repeat (first | apply Kd.R_alloc | apply Kd.R_drewN | apply Kd.R_drew)); exact (Kd.R_mono (Kd.R_far (p := ⟨gb873, 2, none⟩) (Kd.R_far (p := ⟨gb873, 1, none⟩) (Kd.R_far (p := ⟨gb873, 0, none⟩) (Kd.R_types HO867.out BK873.out (by decide)) (fun _ hk => hk.2) (.int .i64 t864)) (fun _ hk => hk.2) (.slice Ao58 t865.length co58)) (fun _ hk => hk.2) (.slice Ao59 t868.length co59)) (fun _ h_ => h_.1)))); (case side2 => exact (Kd.R_reads' HO867.out).2.1); (case side3 => refine (Kd.R_reads' (e := 3) (base := w.heap.size) (ok := fun k_ => (((((((True ∧ some k_ ≠ (.slice Ao30 t831.length co30 : Value).ownBlock) ∧ some k_ ≠ (.slice Ao31 t834.length co31 : Value).ownBlock) ∧ some k_ ≠ (.slice Ao32 t837.length co32 : Value).ownBlock) ∧ some k_ ≠ (.slice Ao38 t844.length co38 : Value).ownBlock) ∧ some k_ ≠ (.slice Ao46 t854.length co46 : Value).ownBlock) ∧ some k_ ≠ (.slice Ao50 t858.length co50 : Value).ownBlock) ∧ some k_ ≠ (.slice Ao51 t861.length co51 : Value).ownBlock)) (n := t868.length) (c := co59) ?_).2.2; exact (by (with_reducible repeat (first | apply Kd.R_alloc | apply Kd.R_drewN | apply Kd.R_drew)); exact (Kd.R_mono (Kd.R_far (p := ⟨gb873, 2, none⟩) (Kd.R_far (p := ⟨gb873, 1, none⟩) (Kd.R_far (p := ⟨gb873, 0, none⟩) (Kd.R_types HO870.out BK873.out (by decide)) (fun _ hk => hk.2) (.int .i64 t864)) (fun _ hk => hk.2) (.slice Ao58 t865.length co58)) (fun _ hk => hk.2) (.slice Ao59 t868.length co59)) (fun _ h_ => h_.1)))); (case side4 => exact (Kd.R_reads' HO870.out).2.1); (case side5 => refine (Kd.R_reads' (e := 59) (base := w.heap.size) (ok := fun k_ => (((True ∧ some k_ ≠ (.slice Ao29 t828.length co29 : Value).ownBlock) ∧ some k_ ≠ (.slice Ao45 t851.length co45 : Value).ownBlock) ∧ some k_ ≠ (.slice Ao58 t865.length co58 : Value).ownBlock)) (n := t841.length) (c := co37) ?_).2.2; exact (by (with_reducible repeat (first | apply Kd.R_alloc | apply Kd.R_drewN | apply Kd.R_drew)); exact (Kd.R_mono (Kd.R_far (p := ⟨gb873, 2, none⟩) (Kd.R_far (p := ⟨gb873, 1, none⟩) (Kd.R_far (p := ⟨gb873, 0, none⟩) (Kd.R_types HO843.out BK873.out (by decide)) (fun _ hk => hk.2) (.int .i64 t864)) (fun _ hk => hk.2) (.slice Ao58 t865.length co58)) (fun _ hk => hk.2) (.slice Ao59 t868.length co59)) (fun _ h_ => h_.1)))); (case side6 => exact (Kd.R_reads' HO843.out).2.1); (case side7 => refine (Kd.R_reads' (e := 3) (base := w.heap.size) (ok := fun k_ => (((((((True ∧ some k_ ≠ (.slice Ao30 t831.length co30 : Value).ownBlock) ∧ some k_ ≠ (.slice Ao31 t834.length co31 : Value).ownBlock) ∧ some k_ ≠ (.slice Ao32 t837.length co32 : Value).ownBlock) ∧ some k_ ≠ (.slice Ao46 t854.length co46 : Value).ownBlock) ∧ some k_ ≠ (.slice Ao50 t858.length co50 : Value).ownBlock) ∧ some k_ ≠ (.slice Ao51 t861.length co51 : Value).ownBlock) ∧ some k_ ≠ (.slice Ao59 t868.length co59 : Value).ownBlock)) (n := t844.length) (c := co38) ?_).2.2; exact (by (with_reducible repeat (first | apply Kd.R_alloc | apply Kd.R_drewN | apply Kd.R_drew)); exact (Kd.R_mono (Kd.R_far (p := ⟨gb873, 2, none⟩) (Kd.R_far (p := ⟨gb873, 1, none⟩) (Kd.R_far (p := ⟨gb873, 0, none⟩) (Kd.R_types HO846.out BK873.out (by decide)) (fun _ hk => hk.2) (.int .i64 t864)) (fun _ hk => hk.2) (.slice Ao58 t865.length co58)) (fun _ hk => hk.2) (.slice Ao59 t868.length co59)) (fun _ h_ => h_.1)))); (case side8 => exact (Kd.R_reads' HO846.out).2.1); rintro e w70 ⟨rfl, hb⟩; refine ⟨_, rfl, ?_⟩; have n0_ := Aside0.mk (Kd.R_below (by (with_reducible repeat (first | apply Kd.R_alloc | apply Kd.R_drewN | apply Kd.R_drew)); exact (Kd.R_mono (Kd.R_far (p := ⟨gb873, 2, none⟩) (Kd.R_far (p := ⟨gb873, 1, none⟩) (Kd.R_far (p := ⟨gb873, 0, none⟩) (Kd.R_types HO830.out BK873.out (by decide)) (fun _ hk => hk.2) (.int .i64 t864)) (fun _ hk => hk.2) (.slice Ao58 t865.length co58)) (fun _ hk => hk.2) (.slice Ao59 t868.length co59)) (fun _ h_ => h_.1))) hb); have n1_ := Aside0.mk (Kd.R_below (by (with_reducible repeat (first | apply Kd.R_alloc | apply Kd.R_drewN | apply Kd.R_drew)); exact (Kd.R_mono (Kd.R_far (p := ⟨gb873, 2, none⟩) (Kd.R_far (p := ⟨gb873, 1, none⟩) (Kd.R_far (p := ⟨gb873, 0, none⟩) (Kd.R_types HO833.out BK873.out (by decide)) (fun _ hk => hk.2) (.int .i64 t864)) (fun _ hk => hk.2) (.slice Ao58 t865.length co58)) (fun _ hk => hk.2) (.slice Ao59 t868.length co59)) (fun _ h_ => h_.1))) hb); have n2_ := Aside0.mk (Kd.R_below (by (with_reducible repeat (first | apply Kd.R_alloc | apply Kd.R_drewN | apply Kd.R_drew)); exact (Kd.R_mono (Kd.R_far (p := ⟨gb873, 2, none⟩) (Kd.R_far (p := ⟨gb873, 1, none⟩) (Kd.R_far (p := ⟨gb873, 0, none⟩) (Kd.R_types HO836.out BK873.out (by decide)) (fun _ hk => hk.2) (.int .i64 t864)) (fun _ hk => hk.2) (.slice Ao58 t865.length co58)) (fun _ hk => hk.2) (.slice Ao59 t868.length co59)) (fun _ h_ => h_.1))) hb); have n3_ := Aside0.mk (Kd.R_below (by (with_reducible repeat (first | apply Kd.R_alloc | apply Kd.R_drewN | apply Kd.R_drew)); exact (Kd.R_mono (Kd.R_far (p := ⟨gb873, 2, none⟩) (Kd.R_far (p := ⟨gb873, 1, none⟩) (Kd.R_far (p := ⟨gb873, 0, none⟩) (Kd.R_types HO839.out BK873.out (by decide)) (fun _ hk => hk.2) (.int .i64 t864)) (fun _ hk => hk.2) (.slice Ao58 t865.length co58)) (fun _ hk => hk.2) (.slice Ao59 t868.length co59)) (fun _ h_ => h_.1))) hb); have n4_ := Aside0.mk (Kd.R_below (by (with_reducible repeat (first | apply Kd.R_alloc | apply Kd.R_drewN | apply Kd.R_drew)); exact (Kd.R_mono (Kd.R_far (p := ⟨gb873, 2, none⟩) (Kd.R_far (p := ⟨gb873, 1, none⟩) (Kd.R_far (p := ⟨gb873, 0, none⟩) (Kd.R_types HO843.out BK873.out (by decide)) (fun _ hk => hk.2) (.int .i64 t864)) (fun _ hk => hk.2) (.slice Ao58 t865.length co58)) (fun _ hk => hk.2) (.slice Ao59 t868.length co59)) (fun _ h_ => h_.1))) hb); have n5_ := Aside0.mk (Kd.R_below (by (with_reducible repeat (first | apply Kd.R_alloc | apply Kd.R_drewN | apply Kd.R_drew)); exact (Kd.R_mono (Kd.R_far (p := ⟨gb873, 2, none⟩) (Kd.R_far (p := ⟨gb873, 1, none⟩) (Kd.R_far (p := ⟨gb873, 0, none⟩) (Kd.R_types HO846.out BK873.out (by decide)) (fun _ hk => hk.2) (.int .i64 t864)) (fun _ hk => hk.2) (.slice Ao58 t865.length co58)) (fun _ hk => hk.2) (.slice Ao59 t868.length co59)) (fun _ h_ => h_.1))) hb); have n6_ := Aside0.mk (Kd.R_below (by (with_reducible repeat (first | apply Kd.R_alloc | apply Kd.R_drewN | apply Kd.R_drew)); exact (Kd.R_mono (Kd.R_far (p := ⟨gb873, 2, none⟩) (Kd.R_far (p := ⟨gb873, 1, none⟩) (Kd.R_far (p := ⟨gb873, 0, none⟩) (Kd.R_types HO853.out BK873.out (by decide)) (fun _ hk => hk.2) (.int .i64 t864)) (fun _ hk => hk.2) (.slice Ao58 t865.length co58)) (fun _ hk => hk.2) (.slice Ao59 t868.length co59)) (fun _ h_ => h_.1))) hb); have n7_ := Aside0.mk (Kd.R_below (by (with_reducible repeat (first | apply Kd.R_alloc | apply Kd.R_drewN | apply Kd.R_drew)); exact (Kd.R_mono (Kd.R_far (p := ⟨gb873, 2, none⟩) (Kd.R_far (p := ⟨gb873, 1, none⟩) (Kd.R_far (p := ⟨gb873, 0, none⟩) (Kd.R_types HO856.out BK873.out (by decide)) (fun _ hk => hk.2) (.int .i64 t864)) (fun _ hk => hk.2) (.slice Ao58 t865.length co58)) (fun _ hk => hk.2) (.slice Ao59 t868.length co59)) (fun _ h_ => h_.1))) hb); have n8_ := Aside0.mk (Kd.R_below (by (with_reducible repeat (first | apply Kd.R_alloc | apply Kd.R_drewN | apply Kd.R_drew)); exact (Kd.R_mono (Kd.R_far (p := ⟨gb873, 2, none⟩) (Kd.R_far (p := ⟨gb873, 1, none⟩) (Kd.R_far (p := ⟨gb873, 0, none⟩) (Kd.R_types HO860.out BK873.out (by decide)) (fun _ hk => hk.2) (.int .i64 t864)) (fun _ hk => hk.2) (.slice Ao58 t865.length co58)) (fun _ hk => hk.2) (.slice Ao59 t868.length co59)) (fun _ h_ => h_.1))) hb); have n9_ := Aside0.mk (Kd.R_below (by (with_reducible repeat (first | apply Kd.R_alloc | apply Kd.R_drewN | apply Kd.R_drew)); exact (Kd.R_mono (Kd.R_far (p := ⟨gb873, 2, none⟩) (Kd.R_far (p := ⟨gb873, 1, none⟩) (Kd.R_far (p := ⟨gb873, 0, none⟩) (Kd.R_types HO863.out BK873.out (by decide)) (fun _ hk => hk.2) (.int .i64 t864)) (fun _ hk => hk.2) (.slice Ao58 t865.length co58)) (fun _ hk => hk.2) (.slice Ao59 t868.length co59)) (fun _ h_ => h_.1))) hb); have n10_ := Aside0.mk (Kd.R_below (by (with_reducible repeat (first | apply Kd.R_alloc | apply Kd.R_drewN | apply Kd.R_drew)); exact (Kd.R_mono (Kd.R_far (p := ⟨gb873, 2, none⟩) (Kd.R_far (p := ⟨gb873, 1, none⟩) (Kd.R_far (p := ⟨gb873, 0, none⟩) (Kd.R_types HO867.out BK873.out (by decide)) (fun _ hk => hk.2) (.int .i64 t864)) (fun _ hk => hk.2) (.slice Ao58 t865.length co58)) (fun _ hk => hk.2) (.slice Ao59 t868.length co59)) (fun _ h_ => h_.1))) hb); have n11_ := Aside0.mk (Kd.R_below (by (with_reducible repeat (first | apply Kd.R_alloc | apply Kd.R_drewN | apply Kd.R_drew)); exact (Kd.R_mono (Kd.R_far (p := ⟨gb873, 2, none⟩) (Kd.R_far (p := ⟨gb873, 1, none⟩) (Kd.R_far (p := ⟨gb873, 0, none⟩) (Kd.R_types HO870.out BK873.out (by decide)) (fun _ hk => hk.2) (.int .i64 t864)) (fun _ hk => hk.2) (.slice Ao58 t865.length co58)) (fun _ hk => hk.2) (.slice Ao59 t868.length co59)) (fun _ h_ => h_.1))) hb); have n12_ := Aside0.mk (blk_below (g := gb825) (o := .cells #[.int .i64 a0_0, .slice A0_1 l0_1.length c0_1, .slice A0_2 l0_2.length c0_2] 25 (0, 0)) (qF BK825.out) hb); have n13_ := Aside0.mk (blk_below (g := gb849) (o := .cells #[.int .i64 t840, .slice Ao37 t841.length co37, .slice Ao38 t844.length co38] 30 (0, 0)) (qF BK849.out) hb); have n14_ := Aside0.mk (blk_below (g := gb857) (o := .cells #[.int .i64 t850, .slice Ao45 t851.length co45, .slice Ao46 t854.length co46] 30 (0, 0)) (qF BK857.out) hb); have n15_ := Aside0.mk (blk_below (g := gb873) (o := .cells #[.int .i64 t864, .slice Ao58 t865.length co58, .slice Ao59 t868.length co59] 30 (0, 0)) (by (with_reducible repeat (first | refine blk_drewN ?_ _ | refine blk_drew ?_ | refine blk_alloc ?_ _)); refine blk_put (cs := #[.int .i64 t864, .slice Ao58 t865.length co58, .slice none 0 0]) ?_ 2 _ rfl; refine blk_put (cs := #[.int .i64 t864, .slice none 0 0, .slice none 0 0]) ?_ 1 _ rfl; refine blk_put (cs := #[.int .i64 0, .slice none 0 0, .slice none 0 0]) ?_ 0 _ rfl; exact qK BK873.out) hb); have n16_ := Aside0.mk (below_step (qB) hb); clear HO830; clear HO833; clear HO836; clear HO839; clear HO843; clear HO846; clear HO853; clear HO856; clear HO860; clear HO863; clear HO867; clear HO870; clear BK825; clear BK849; clear BK857; clear BK873; clear HB; have HO830 := n0_; have HO833 := n1_; have HO836 := n2_; have HO839 := n3_; have HO843 := n4_; have HO846 := n5_; have HO853 := n6_; have HO856 := n7_; have HO860 := n8_; have HO863 := n9_; have HO867 := n10_; have HO870 := n11_; have BK825 := n12_; have BK849 := n13_; have BK857 := n14_; have BK873 := n15_; have HB := n16_; clear n0_ n1_ n2_ n3_ n4_ n5_ n6_ n7_ n8_ n9_ n10_ n11_ n12_ n13_ n14_ n15_ n16_; (try clear hb); (try clear hb2); (try clear hk); (try clear hi)))
       go_meet
       case rel => exact ⟨_, ((t872 != t848)), qS, H', ⟨by first | omega | exact Nat.le_refl _⟩, ⟨by (with_reducible repeat (first | apply Kd.R_alloc | apply Kd.R_drewN | apply Kd.R_drew)); exact Kd.R_mono HO860.out (fun _ hk => ⟨hk.1.2, ⟨hk.1.1.1.2, ⟨hk.1.1.2, hk.2⟩⟩⟩)⟩, ⟨by (with_reducible repeat (first | apply Kd.R_alloc | apply Kd.R_drewN | apply Kd.R_drew)); exact Kd.R_mono HO863.out (fun _ hk => ⟨hk.1.2, ⟨hk.1.1.1.2, ⟨hk.1.1.2, hk.2⟩⟩⟩)⟩, ⟨by (with_reducible repeat (first | apply Kd.R_alloc | apply Kd.R_drewN | apply Kd.R_drew)); exact Kd.R_mono HO843.out (fun _ hk => ⟨hk.1.2, hk.2⟩)⟩, ⟨by (with_reducible repeat (first | apply Kd.R_alloc | apply Kd.R_drewN | apply Kd.R_drew)); exact Kd.R_mono HO846.out (fun _ hk => ⟨hk.1.1.2, ⟨hk.1.2, ⟨hk.1.1.1.2, hk.2⟩⟩⟩)⟩, ⟨by (with_reducible repeat (first | apply Kd.R_alloc | apply Kd.R_drewN | apply Kd.R_drew)); exact Kd.R_mono HO853.out (fun _ hk => ⟨hk.1.2, hk.2⟩)⟩, ⟨by (with_reducible repeat (first | apply Kd.R_alloc | apply Kd.R_drewN | apply Kd.R_drew)); exact Kd.R_mono HO856.out (fun _ hk => ⟨hk.1.1.2, ⟨hk.1.2, ⟨hk.1.1.1.2, hk.2⟩⟩⟩)⟩, ⟨by (with_reducible repeat (first | apply Kd.R_alloc | apply Kd.R_drewN | apply Kd.R_drew)); exact Kd.R_mono HO867.out (fun _ hk => ⟨hk.1.2, hk.2⟩)⟩, ⟨by (with_reducible repeat (first | apply Kd.R_alloc | apply Kd.R_drewN | apply Kd.R_drew)); exact Kd.R_mono HO870.out (fun _ hk => ⟨hk.1.2, ⟨hk.2, ⟨hk.1.1.1.2, hk.1.1.2⟩⟩⟩)⟩, ⟨by exact qK BK825.out⟩, ⟨by exact qK BK849.out⟩, ⟨by exact qK BK857.out⟩, ⟨by exact qK BK873.out⟩, ⟨qB⟩⟩
      ·rw [if_neg c62] at H
       exact absurd H (by cases k <;> simp [laws_FnExactLessGates.j0])
     ·replace c61 := Bool.eq_false_iff.mpr c61
      subst c61
      have H1 : (laws_FnExactLessGates.j0 k l1 l2 t847 t848 t858 t861 t871 t872 true a0_0 l0_1 l0_2 t840 t841 t844 t850 t851 t854 t864 t865 t868) = some true := by rw [if_neg (show ¬ (false = true) by decide)] at H; exact H
      exact absurd H1 (by cases k <;> simp [laws_FnExactLessGates.j0])
    case rest =>
     clear HC21
     try clear c1
     try clear c2
     try clear p2
     try clear c3
     try clear c4
     try clear c4b0
     try clear c4b1
     try clear c5
     try clear c6
     try clear c6b0
     try clear c6b1
     try clear c7
     try clear c8
     try clear c9
     try clear c9b0
     try clear c11
     try clear c13
     try clear c15
     try clear c34
     try clear c35
     try clear c36
     try clear c37
     try clear c42
     try clear c43
     try clear c54
     try clear c55
     try clear c56
     try clear c61
     try clear c62
     try clear c62b0
     try clear c62b1
     try clear c63
     try clear c64
     try clear c65
     try clear c67
     try clear c68
     try clear c71
     try clear c72
     try clear c73
     try clear c75
     try clear c76
     try clear c79
     try clear c80
     try clear c81
     try clear c83
     try clear c84
     try clear hcz11_0
     try clear hcz11_1
     try clear hcz11_2
     try clear hcz23_0
     try clear hcz23_1
     try clear hcz23_2
     try clear hcz25_0
     try clear hcz25_1
     try clear hcz25_2
     try clear hcz36_0
     try clear hcz36_1
     try clear hcz36_2
     try clear hcz39_0
     try clear hcz39_1
     try clear hcz39_2
     try clear hcz44_0
     try clear hcz44_1
     try clear hcz44_2
     try clear hcz49_0
     try clear hcz49_1
     try clear hcz49_2
     try clear hcz57_0
     try clear hcz57_1
     try clear hcz57_2
     try clear hcz66_0
     try clear hcz66_1
     try clear hcz66_2
     try clear hcz69_0
     try clear hcz69_1
     try clear hcz69_2
     try clear hcz74_0
     try clear hcz74_1
     try clear hcz74_2
     try clear hcz77_0
     try clear hcz77_1
     try clear hcz77_2
     try clear hcz82_0
     try clear hcz82_1
     try clear hcz82_2
     try clear hcz85_0
     try clear hcz85_1
     try clear hcz85_2
     try clear hfz11_0
     try clear hfz11_1
     try clear hfz11_2
     try clear hfz23_0
     try clear hfz23_1
     try clear hfz23_2
     try clear hfz25_0
     try clear hfz25_1
     try clear hfz25_2
     try clear hfz36_0
     try clear hfz36_1
     try clear hfz36_2
     try clear hfz39_0
     try clear hfz39_1
     try clear hfz39_2
     try clear hfz44_0
     try clear hfz44_1
     try clear hfz44_2
     try clear hfz49_0
     try clear hfz49_1
     try clear hfz49_2
     try clear hfz57_0
     try clear hfz57_1
     try clear hfz57_2
     try clear hfz66_0
     try clear hfz66_1
     try clear hfz66_2
     try clear hfz69_0
     try clear hfz69_1
     try clear hfz69_2
     try clear hfz74_0
     try clear hfz74_1
     try clear hfz74_2
     try clear hfz77_0
     try clear hfz77_1
     try clear hfz77_2
     try clear hfz82_0
     try clear hfz82_1
     try clear hfz82_2
     try clear hfz85_0
     try clear hfz85_1
     try clear hfz85_2
     obtain ⟨kq, x72_20, rfl, HA, HJ20, HO_12, HO_13, HO_850001, HO_850002, HO_858001, HO_858002, HO_874001, HO_874002, BK825, BK849, BK857, BK873, HB⟩ := hcut
     cases kq with
     | zero => exact absurd HA.out (by simp [laws_FnExactLessGates.j0])
     | succ kj20 =>
      have H := HA.out
      clear HA
      simp only [laws_FnExactLessGates.j0] at H
      by_cases c87 : x72_20 = true
      ·subst c87
       have H1 : (some false) = some true := by rw [if_pos rfl] at H; exact H
       exact absurd H1 (by simp)
      ·replace c87 := Bool.eq_false_iff.mpr c87
       subst c87
       have H1 : ((laws_toCircuit.f kj20 a0_0 l0_1 l0_2).bind fun bt875 => ((laws_eqCircuit.f kj20 t850 t851 t854 bt875.1 bt875.2.1 bt875.2.2).bind fun t882 => (if t882 = true then ((laws_toIntS.f kj20 l1).bind fun t883 => ((laws_eqIntS.f kj20 t858 t883).bind fun t886 => (if t886 = true then ((laws_toIntS.f kj20 l2).bind fun t887 => ((laws_eqIntS.f kj20 t861 t887).bind fun t890 => (if t890 = true then ((laws_markCircuit.f kj20 t850 t851 t854 1).bind fun bt891 => ((laws_markIntS.f kj20 t858 bt891.1).bind fun bt894 => ((laws_markIntS.f kj20 t861 bt894.1).bind fun bt896 => (if bt896.1 < 0 then (laws_FnExactLessGates.j1 kj20 l1 l2 t847 t848 true a0_0 l0_1 l0_2 t840 t841 t844 t864 t865 t868) else ((laws_eqCircuit.f kj20 t864 t865 t868 t840 t841 t844).bind fun t898 => (if t898 = true then (if t871 = t847 then (laws_FnExactLessGates.j1 kj20 l1 l2 t847 t848 (t872 != t848) a0_0 l0_1 l0_2 t840 t841 t844 t864 t865 t868) else (laws_FnExactLessGates.j1 kj20 l1 l2 t847 t848 true a0_0 l0_1 l0_2 t840 t841 t844 t864 t865 t868)) else (laws_FnExactLessGates.j1 kj20 l1 l2 t847 t848 true a0_0 l0_1 l0_2 t840 t841 t844 t864 t865 t868))))))) else (some false)))) else (some false)))) else (some false)))) = some true := by rw [if_neg (show ¬ (false = true) by decide)] at H; exact H
       clear H
       have H := H1
       clear H1
       replace H := Option.bind_eq_some_iff.mp H
       obtain ⟨⟨t875, t876, t879⟩, A880, H⟩ := H
       replace H : ((laws_eqCircuit.f kj20 t850 t851 t854 t875 t876 t879).bind fun t882 => (if t882 = true then ((laws_toIntS.f kj20 l1).bind fun t883 => ((laws_eqIntS.f kj20 t858 t883).bind fun t886 => (if t886 = true then ((laws_toIntS.f kj20 l2).bind fun t887 => ((laws_eqIntS.f kj20 t861 t887).bind fun t890 => (if t890 = true then ((laws_markCircuit.f kj20 t850 t851 t854 1).bind fun bt891 => ((laws_markIntS.f kj20 t858 bt891.1).bind fun bt894 => ((laws_markIntS.f kj20 t861 bt894.1).bind fun bt896 => (if bt896.1 < 0 then (laws_FnExactLessGates.j1 kj20 l1 l2 t847 t848 true a0_0 l0_1 l0_2 t840 t841 t844 t864 t865 t868) else ((laws_eqCircuit.f kj20 t864 t865 t868 t840 t841 t844).bind fun t898 => (if t898 = true then (if t871 = t847 then (laws_FnExactLessGates.j1 kj20 l1 l2 t847 t848 (t872 != t848) a0_0 l0_1 l0_2 t840 t841 t844 t864 t865 t868) else (laws_FnExactLessGates.j1 kj20 l1 l2 t847 t848 true a0_0 l0_1 l0_2 t840 t841 t844 t864 t865 t868)) else (laws_FnExactLessGates.j1 kj20 l1 l2 t847 t848 true a0_0 l0_1 l0_2 t840 t841 t844 t864 t865 t868))))))) else (some false)))) else (some false)))) else (some false))) = some true := H
       have A88 := Aside0.mk A880
       clear A880
       replace H := Option.bind_eq_some_iff.mp H
       obtain ⟨t882, A890, H⟩ := H
       replace H : (if t882 = true then ((laws_toIntS.f kj20 l1).bind fun t883 => ((laws_eqIntS.f kj20 t858 t883).bind fun t886 => (if t886 = true then ((laws_toIntS.f kj20 l2).bind fun t887 => ((laws_eqIntS.f kj20 t861 t887).bind fun t890 => (if t890 = true then ((laws_markCircuit.f kj20 t850 t851 t854 1).bind fun bt891 => ((laws_markIntS.f kj20 t858 bt891.1).bind fun bt894 => ((laws_markIntS.f kj20 t861 bt894.1).bind fun bt896 => (if bt896.1 < 0 then (laws_FnExactLessGates.j1 kj20 l1 l2 t847 t848 true a0_0 l0_1 l0_2 t840 t841 t844 t864 t865 t868) else ((laws_eqCircuit.f kj20 t864 t865 t868 t840 t841 t844).bind fun t898 => (if t898 = true then (if t871 = t847 then (laws_FnExactLessGates.j1 kj20 l1 l2 t847 t848 (t872 != t848) a0_0 l0_1 l0_2 t840 t841 t844 t864 t865 t868) else (laws_FnExactLessGates.j1 kj20 l1 l2 t847 t848 true a0_0 l0_1 l0_2 t840 t841 t844 t864 t865 t868)) else (laws_FnExactLessGates.j1 kj20 l1 l2 t847 t848 true a0_0 l0_1 l0_2 t840 t841 t844 t864 t865 t868))))))) else (some false)))) else (some false)))) else (some false)) = some true := H
       have A89 := Aside0.mk A890
       clear A890
       by_cases c90 : t882 = true
       ·subst c90
        have H1 : ((laws_toIntS.f kj20 l1).bind fun t883 => ((laws_eqIntS.f kj20 t858 t883).bind fun t886 => (if t886 = true then ((laws_toIntS.f kj20 l2).bind fun t887 => ((laws_eqIntS.f kj20 t861 t887).bind fun t890 => (if t890 = true then ((laws_markCircuit.f kj20 t850 t851 t854 1).bind fun bt891 => ((laws_markIntS.f kj20 t858 bt891.1).bind fun bt894 => ((laws_markIntS.f kj20 t861 bt894.1).bind fun bt896 => (if bt896.1 < 0 then (laws_FnExactLessGates.j1 kj20 l1 l2 t847 t848 true a0_0 l0_1 l0_2 t840 t841 t844 t864 t865 t868) else ((laws_eqCircuit.f kj20 t864 t865 t868 t840 t841 t844).bind fun t898 => (if t898 = true then (if t871 = t847 then (laws_FnExactLessGates.j1 kj20 l1 l2 t847 t848 (t872 != t848) a0_0 l0_1 l0_2 t840 t841 t844 t864 t865 t868) else (laws_FnExactLessGates.j1 kj20 l1 l2 t847 t848 true a0_0 l0_1 l0_2 t840 t841 t844 t864 t865 t868)) else (laws_FnExactLessGates.j1 kj20 l1 l2 t847 t848 true a0_0 l0_1 l0_2 t840 t841 t844 t864 t865 t868))))))) else (some false)))) else (some false)))) = some true := by rw [if_pos rfl] at H; exact H
        clear H
        have H := H1
        clear H1
        replace H := Option.bind_eq_some_iff.mp H
        obtain ⟨t883, A910, H⟩ := H
        replace H : ((laws_eqIntS.f kj20 t858 t883).bind fun t886 => (if t886 = true then ((laws_toIntS.f kj20 l2).bind fun t887 => ((laws_eqIntS.f kj20 t861 t887).bind fun t890 => (if t890 = true then ((laws_markCircuit.f kj20 t850 t851 t854 1).bind fun bt891 => ((laws_markIntS.f kj20 t858 bt891.1).bind fun bt894 => ((laws_markIntS.f kj20 t861 bt894.1).bind fun bt896 => (if bt896.1 < 0 then (laws_FnExactLessGates.j1 kj20 l1 l2 t847 t848 true a0_0 l0_1 l0_2 t840 t841 t844 t864 t865 t868) else ((laws_eqCircuit.f kj20 t864 t865 t868 t840 t841 t844).bind fun t898 => (if t898 = true then (if t871 = t847 then (laws_FnExactLessGates.j1 kj20 l1 l2 t847 t848 (t872 != t848) a0_0 l0_1 l0_2 t840 t841 t844 t864 t865 t868) else (laws_FnExactLessGates.j1 kj20 l1 l2 t847 t848 true a0_0 l0_1 l0_2 t840 t841 t844 t864 t865 t868)) else (laws_FnExactLessGates.j1 kj20 l1 l2 t847 t848 true a0_0 l0_1 l0_2 t840 t841 t844 t864 t865 t868))))))) else (some false)))) else (some false))) = some true := H
        have A91 := Aside0.mk A910
        clear A910
        replace H := Option.bind_eq_some_iff.mp H
        obtain ⟨t886, A920, H⟩ := H
        replace H : (if t886 = true then ((laws_toIntS.f kj20 l2).bind fun t887 => ((laws_eqIntS.f kj20 t861 t887).bind fun t890 => (if t890 = true then ((laws_markCircuit.f kj20 t850 t851 t854 1).bind fun bt891 => ((laws_markIntS.f kj20 t858 bt891.1).bind fun bt894 => ((laws_markIntS.f kj20 t861 bt894.1).bind fun bt896 => (if bt896.1 < 0 then (laws_FnExactLessGates.j1 kj20 l1 l2 t847 t848 true a0_0 l0_1 l0_2 t840 t841 t844 t864 t865 t868) else ((laws_eqCircuit.f kj20 t864 t865 t868 t840 t841 t844).bind fun t898 => (if t898 = true then (if t871 = t847 then (laws_FnExactLessGates.j1 kj20 l1 l2 t847 t848 (t872 != t848) a0_0 l0_1 l0_2 t840 t841 t844 t864 t865 t868) else (laws_FnExactLessGates.j1 kj20 l1 l2 t847 t848 true a0_0 l0_1 l0_2 t840 t841 t844 t864 t865 t868)) else (laws_FnExactLessGates.j1 kj20 l1 l2 t847 t848 true a0_0 l0_1 l0_2 t840 t841 t844 t864 t865 t868))))))) else (some false)))) else (some false)) = some true := H
        have A92 := Aside0.mk A920
        clear A920
        by_cases c93 : t886 = true
        ·subst c93
         have H1 : ((laws_toIntS.f kj20 l2).bind fun t887 => ((laws_eqIntS.f kj20 t861 t887).bind fun t890 => (if t890 = true then ((laws_markCircuit.f kj20 t850 t851 t854 1).bind fun bt891 => ((laws_markIntS.f kj20 t858 bt891.1).bind fun bt894 => ((laws_markIntS.f kj20 t861 bt894.1).bind fun bt896 => (if bt896.1 < 0 then (laws_FnExactLessGates.j1 kj20 l1 l2 t847 t848 true a0_0 l0_1 l0_2 t840 t841 t844 t864 t865 t868) else ((laws_eqCircuit.f kj20 t864 t865 t868 t840 t841 t844).bind fun t898 => (if t898 = true then (if t871 = t847 then (laws_FnExactLessGates.j1 kj20 l1 l2 t847 t848 (t872 != t848) a0_0 l0_1 l0_2 t840 t841 t844 t864 t865 t868) else (laws_FnExactLessGates.j1 kj20 l1 l2 t847 t848 true a0_0 l0_1 l0_2 t840 t841 t844 t864 t865 t868)) else (laws_FnExactLessGates.j1 kj20 l1 l2 t847 t848 true a0_0 l0_1 l0_2 t840 t841 t844 t864 t865 t868))))))) else (some false)))) = some true := by rw [if_pos rfl] at H; exact H
         clear H
         have H := H1
         clear H1
         replace H := Option.bind_eq_some_iff.mp H
         obtain ⟨t887, A940, H⟩ := H
         replace H : ((laws_eqIntS.f kj20 t861 t887).bind fun t890 => (if t890 = true then ((laws_markCircuit.f kj20 t850 t851 t854 1).bind fun bt891 => ((laws_markIntS.f kj20 t858 bt891.1).bind fun bt894 => ((laws_markIntS.f kj20 t861 bt894.1).bind fun bt896 => (if bt896.1 < 0 then (laws_FnExactLessGates.j1 kj20 l1 l2 t847 t848 true a0_0 l0_1 l0_2 t840 t841 t844 t864 t865 t868) else ((laws_eqCircuit.f kj20 t864 t865 t868 t840 t841 t844).bind fun t898 => (if t898 = true then (if t871 = t847 then (laws_FnExactLessGates.j1 kj20 l1 l2 t847 t848 (t872 != t848) a0_0 l0_1 l0_2 t840 t841 t844 t864 t865 t868) else (laws_FnExactLessGates.j1 kj20 l1 l2 t847 t848 true a0_0 l0_1 l0_2 t840 t841 t844 t864 t865 t868)) else (laws_FnExactLessGates.j1 kj20 l1 l2 t847 t848 true a0_0 l0_1 l0_2 t840 t841 t844 t864 t865 t868))))))) else (some false))) = some true := H
         have A94 := Aside0.mk A940
         clear A940
         replace H := Option.bind_eq_some_iff.mp H
         obtain ⟨t890, A950, H⟩ := H
         replace H : (if t890 = true then ((laws_markCircuit.f kj20 t850 t851 t854 1).bind fun bt891 => ((laws_markIntS.f kj20 t858 bt891.1).bind fun bt894 => ((laws_markIntS.f kj20 t861 bt894.1).bind fun bt896 => (if bt896.1 < 0 then (laws_FnExactLessGates.j1 kj20 l1 l2 t847 t848 true a0_0 l0_1 l0_2 t840 t841 t844 t864 t865 t868) else ((laws_eqCircuit.f kj20 t864 t865 t868 t840 t841 t844).bind fun t898 => (if t898 = true then (if t871 = t847 then (laws_FnExactLessGates.j1 kj20 l1 l2 t847 t848 (t872 != t848) a0_0 l0_1 l0_2 t840 t841 t844 t864 t865 t868) else (laws_FnExactLessGates.j1 kj20 l1 l2 t847 t848 true a0_0 l0_1 l0_2 t840 t841 t844 t864 t865 t868)) else (laws_FnExactLessGates.j1 kj20 l1 l2 t847 t848 true a0_0 l0_1 l0_2 t840 t841 t844 t864 t865 t868))))))) else (some false)) = some true := H
         have A95 := Aside0.mk A950
         clear A950
         by_cases c96 : t890 = true
         ·subst c96
          have H1 : ((laws_markCircuit.f kj20 t850 t851 t854 1).bind fun bt891 => ((laws_markIntS.f kj20 t858 bt891.1).bind fun bt894 => ((laws_markIntS.f kj20 t861 bt894.1).bind fun bt896 => (if bt896.1 < 0 then (laws_FnExactLessGates.j1 kj20 l1 l2 t847 t848 true a0_0 l0_1 l0_2 t840 t841 t844 t864 t865 t868) else ((laws_eqCircuit.f kj20 t864 t865 t868 t840 t841 t844).bind fun t898 => (if t898 = true then (if t871 = t847 then (laws_FnExactLessGates.j1 kj20 l1 l2 t847 t848 (t872 != t848) a0_0 l0_1 l0_2 t840 t841 t844 t864 t865 t868) else (laws_FnExactLessGates.j1 kj20 l1 l2 t847 t848 true a0_0 l0_1 l0_2 t840 t841 t844 t864 t865 t868)) else (laws_FnExactLessGates.j1 kj20 l1 l2 t847 t848 true a0_0 l0_1 l0_2 t840 t841 t844 t864 t865 t868))))))) = some true := by rw [if_pos rfl] at H; exact H
          clear H
          have H := H1
          clear H1
          replace H := Option.bind_eq_some_iff.mp H
          obtain ⟨⟨t891, t892, t893⟩, A970, H⟩ := H
          replace H : ((laws_markIntS.f kj20 t858 t891).bind fun bt894 => ((laws_markIntS.f kj20 t861 bt894.1).bind fun bt896 => (if bt896.1 < 0 then (laws_FnExactLessGates.j1 kj20 l1 l2 t847 t848 true a0_0 l0_1 l0_2 t840 t841 t844 t864 t865 t868) else ((laws_eqCircuit.f kj20 t864 t865 t868 t840 t841 t844).bind fun t898 => (if t898 = true then (if t871 = t847 then (laws_FnExactLessGates.j1 kj20 l1 l2 t847 t848 (t872 != t848) a0_0 l0_1 l0_2 t840 t841 t844 t864 t865 t868) else (laws_FnExactLessGates.j1 kj20 l1 l2 t847 t848 true a0_0 l0_1 l0_2 t840 t841 t844 t864 t865 t868)) else (laws_FnExactLessGates.j1 kj20 l1 l2 t847 t848 true a0_0 l0_1 l0_2 t840 t841 t844 t864 t865 t868)))))) = some true := H
          have A97 := Aside0.mk A970
          clear A970
          replace H := Option.bind_eq_some_iff.mp H
          obtain ⟨⟨t894, t895⟩, A980, H⟩ := H
          replace H : ((laws_markIntS.f kj20 t861 t894).bind fun bt896 => (if bt896.1 < 0 then (laws_FnExactLessGates.j1 kj20 l1 l2 t847 t848 true a0_0 l0_1 l0_2 t840 t841 t844 t864 t865 t868) else ((laws_eqCircuit.f kj20 t864 t865 t868 t840 t841 t844).bind fun t898 => (if t898 = true then (if t871 = t847 then (laws_FnExactLessGates.j1 kj20 l1 l2 t847 t848 (t872 != t848) a0_0 l0_1 l0_2 t840 t841 t844 t864 t865 t868) else (laws_FnExactLessGates.j1 kj20 l1 l2 t847 t848 true a0_0 l0_1 l0_2 t840 t841 t844 t864 t865 t868)) else (laws_FnExactLessGates.j1 kj20 l1 l2 t847 t848 true a0_0 l0_1 l0_2 t840 t841 t844 t864 t865 t868))))) = some true := H
          have A98 := Aside0.mk A980
          clear A980
          replace H := Option.bind_eq_some_iff.mp H
          obtain ⟨⟨t896, t897⟩, A990, H⟩ := H
          replace H : (if t896 < 0 then (laws_FnExactLessGates.j1 kj20 l1 l2 t847 t848 true a0_0 l0_1 l0_2 t840 t841 t844 t864 t865 t868) else ((laws_eqCircuit.f kj20 t864 t865 t868 t840 t841 t844).bind fun t898 => (if t898 = true then (if t871 = t847 then (laws_FnExactLessGates.j1 kj20 l1 l2 t847 t848 (t872 != t848) a0_0 l0_1 l0_2 t840 t841 t844 t864 t865 t868) else (laws_FnExactLessGates.j1 kj20 l1 l2 t847 t848 true a0_0 l0_1 l0_2 t840 t841 t844 t864 t865 t868)) else (laws_FnExactLessGates.j1 kj20 l1 l2 t847 t848 true a0_0 l0_1 l0_2 t840 t841 t844 t864 t865 t868)))) = some true := H
          have A99 := Aside0.mk A990
          clear A990
          have HC100 := Aside0.mk H
          clear H
          try go_wp2
          have n0_ := Aside0.mk (Kd.R_drew HO_12.out)
          have n1_ := Aside0.mk (Kd.R_drew HO_13.out)
          have n2_ := Aside0.mk (Kd.R_drew HO_850001.out)
          have n3_ := Aside0.mk (Kd.R_drew HO_850002.out)
          have n4_ := Aside0.mk (Kd.R_drew HO_858001.out)
          have n5_ := Aside0.mk (Kd.R_drew HO_858002.out)
          have n6_ := Aside0.mk (Kd.R_drew HO_874001.out)
          have n7_ := Aside0.mk (Kd.R_drew HO_874002.out)
          have n8_ := Aside0.mk (blk_drew BK825.out)
          have n9_ := Aside0.mk (blk_drew BK849.out)
          have n10_ := Aside0.mk (blk_drew BK857.out)
          have n11_ := Aside0.mk (blk_drew BK873.out)
          have n12_ := Aside0.mk (below_drew1 HB.out)
          clear HO_12
          clear HO_13
          clear HO_850001
          clear HO_850002
          clear HO_858001
          clear HO_858002
          clear HO_874001
          clear HO_874002
          clear BK825
          clear BK849
          clear BK857
          clear BK873
          clear HB
          have HO_12 := n0_
          have HO_13 := n1_
          have HO_850001 := n2_
          have HO_850002 := n3_
          have HO_858001 := n4_
          have HO_858002 := n5_
          have HO_874001 := n6_
          have HO_874002 := n7_
          have BK825 := n8_
          have BK849 := n9_
          have BK857 := n10_
          have BK873 := n11_
          have HB := n12_
          clear n0_ n1_ n2_ n3_ n4_ n5_ n6_ n7_ n8_ n9_ n10_ n11_ n12_
          refine start_ (n := 5) (S := fun w' => w'.cell? ⟨gb857, 0, none⟩ = some (.int .i64 t850) ∧ w'.cell? ⟨gb857, 1, none⟩ = some (.slice Ao45 t851.length co45) ∧ w'.cell? ⟨gb857, 2, none⟩ = some (.slice Ao46 t854.length co46) ∧ w'.cell? ⟨gb825, 0, none⟩ = some (.int .i64 a0_0) ∧ w'.cell? ⟨gb825, 1, none⟩ = some (.slice A0_1 l0_1.length c0_1) ∧ w'.cell? ⟨gb825, 2, none⟩ = some (.slice A0_2 l0_2.length c0_2)) (ds := []) #[false, false, false, false, false] (by kernel_rfl) rfl rfl ⟨(blk_cell BK857.out 0).trans rfl, (blk_cell BK857.out 1).trans rfl, (blk_cell BK857.out 2).trans rfl, (blk_cell BK825.out 0).trans rfl, (blk_cell BK825.out 1).trans rfl, (blk_cell BK825.out 2).trans rfl⟩ (fun hHeld => ?_)
          generalize wc.drew = w101 at HO_12 HO_13 HO_850001 HO_850002 HO_858001 HO_858002 HO_874001 HO_874002 BK825 BK849 BK857 BK873 HB hHeld ⊢
          refine take_ (i := 0) (N := some 73) (v := ?_) (a' := ?_) #[true, false, false, false, false] rfl rfl (by kernel_rfl) (fun _ _ _ h => h) (Or.inl ⟨by rfl, ?_⟩) hHeld ?_ ?_
          rotate_left
          ·rintro w' ⟨s0, s1, s2, s3, s4, s5⟩
           go_simp
           with_reducible rfl
          rotate_left
          ·simp only [Act.put, List.setIfInBounds_toArray, List.set_cons_zero, List.set_cons_succ, i64_w, i32_w]
           rfl
          refine take_ (i := 1) (N := some 74) (v := ?_) (a' := ?_) #[true, true, false, false, false] rfl rfl (by kernel_rfl) (fun _ _ _ h => h) (Or.inl ⟨by rfl, ?_⟩) hHeld ?_ ?_
          rotate_left
          ·rintro w' ⟨s0, s1, s2, s3, s4, s5⟩
           go_simp
           with_reducible rfl
          rotate_left
          ·simp only [Act.put, List.setIfInBounds_toArray, List.set_cons_zero, List.set_cons_succ, i64_w, i32_w]
           rfl
          refine one_ (i := 2) (N := some 75) #[true, true, true, false, false] rfl rfl (by kernel_rfl) (by decide) (fun K hK => ?_)
          refine goes_ Try.func13 (by kernel_rfl) rfl #[.agg #[.int .i64 a0_0, .slice A0_1 l0_1.length c0_1, .slice A0_2 l0_2.length c0_2]] (by rfl) rfl rfl qG ?_
          with_reducible refine (laws_toCircuit.calls kj20 a0_0 _ _ l0_1 _ _ l0_2 t875 t876 t879 _ ?side1 ?side2 ?side3 ?side4 A88.out).mono ?_
          (case side1 => exact qC (Kd.C_below HR0_1.out HB.out))
          (case side2 => exact HC0_1.out)
          (case side3 => exact qC (Kd.C_below HR0_2.out HB.out))
          (case side4 => exact HC0_2.out)
          rintro e w102 ⟨v877, v880, rfl, ho0, ho1, hb⟩
          refine ⟨_, rfl, ?_⟩
          have n0_ := Aside0.mk (Kd.R_elder' (qR HO_12.out) (Kd.R_base ho1) hb)
          have n1_ := Aside0.mk (Kd.R_elder' (qR HO_13.out) (Kd.R_base ho1) hb)
          have n2_ := Aside0.mk (Kd.R_elder' (qR HO_850001.out) (Kd.R_base ho0) hb)
          have n3_ := Aside0.mk (Kd.R_elder' (qR HO_850002.out) (Kd.R_base ho1) hb)
          have n4_ := Aside0.mk (Kd.R_elder' (qR HO_858001.out) (Kd.R_base ho0) hb)
          have n5_ := Aside0.mk (Kd.R_elder' (qR HO_858002.out) (Kd.R_base ho1) hb)
          have n6_ := Aside0.mk (Kd.R_elder' (qR HO_874001.out) (Kd.R_base ho0) hb)
          have n7_ := Aside0.mk (Kd.R_elder' (qR HO_874002.out) (Kd.R_base ho1) hb)
          have n8_ := Aside0.mk (Kd.R_lower (Kd.R_new' (Kd.R_new' (Kd.R_new' ho0 (Kd.R_lt (qR HO_850001.out))) (Kd.R_lt (qR HO_858001.out))) (Kd.R_lt (qR HO_874001.out))) (below_size (qB)))
          have n9_ := Aside0.mk (Kd.R_lower (Kd.R_new' (Kd.R_new' (Kd.R_new' (Kd.R_new' (Kd.R_new' ho1 (Kd.R_lt (qR HO_12.out))) (Kd.R_lt (qR HO_13.out))) (Kd.R_lt (qR HO_850002.out))) (Kd.R_lt (qR HO_858002.out))) (Kd.R_lt (qR HO_874002.out))) (below_size (qB)))
          have n10_ := Aside0.mk (blk_below (g := gb825) (o := .cells #[.int .i64 a0_0, .slice A0_1 l0_1.length c0_1, .slice A0_2 l0_2.length c0_2] 25 (0, 0)) (qK BK825.out) hb)
          have n11_ := Aside0.mk (blk_below (g := gb849) (o := .cells #[.int .i64 t840, .slice Ao37 t841.length co37, .slice Ao38 t844.length co38] 30 (0, 0)) (qK BK849.out) hb)
          have n12_ := Aside0.mk (blk_below (g := gb857) (o := .cells #[.int .i64 t850, .slice Ao45 t851.length co45, .slice Ao46 t854.length co46] 30 (0, 0)) (qK BK857.out) hb)
          have n13_ := Aside0.mk (blk_below (g := gb873) (o := .cells #[.int .i64 t864, .slice Ao58 t865.length co58, .slice Ao59 t868.length co59] 30 (0, 0)) (qK BK873.out) hb)
          have n14_ := Aside0.mk (below_step (qB) hb)
          clear HO_12
          clear HO_13
          clear HO_850001
          clear HO_850002
          clear HO_858001
          clear HO_858002
          clear HO_874001
          clear HO_874002
          clear BK825
          clear BK849
          clear BK857
          clear BK873
          clear HB
          have HO_12 := n0_
          have HO_13 := n1_
          have HO_850001 := n2_
          have HO_850002 := n3_
          have HO_858001 := n4_
          have HO_858002 := n5_
          have HO_874001 := n6_
          have HO_874002 := n7_
          have HO878 := n8_
          have HO881 := n9_
          have BK825 := n10_
          have BK849 := n11_
          have BK857 := n12_
          have BK873 := n13_
          have HB := n14_
          clear n0_ n1_ n2_ n3_ n4_ n5_ n6_ n7_ n8_ n9_ n10_ n11_ n12_ n13_ n14_
          (try clear hb)
          (try clear hb2)
          (try clear hk)
          (try clear hi)
          (try clear ho0)
          (try clear ho1)
          obtain ⟨Ao103, co103, eo103⟩ := Kd.R_slice HO878.out
          (first | subst eo103 | (injection eo103 with f1_ f2_ f3_; have f4_ := f1_.symm; have f5_ := f3_.symm; clear f1_ f2_ f3_; subst f4_; subst f5_))
          obtain ⟨Ao104, co104, eo104⟩ := Kd.R_slice HO881.out
          (first | subst eo104 | (injection eo104 with f1_ f2_ f3_; have f4_ := f1_.symm; have f5_ := f3_.symm; clear f1_ f2_ f3_; subst f4_; subst f5_))
          refine hK.out _ _ ⟨(blk_cell BK857.out 0).trans rfl, (blk_cell BK857.out 1).trans rfl, (blk_cell BK857.out 2).trans rfl, (blk_cell BK825.out 0).trans rfl, (blk_cell BK825.out 1).trans rfl, (blk_cell BK825.out 2).trans rfl⟩ (fun hHeld => ?_)
          clear hK K
          refine norm_ (a' := ?_) ?_ ?_
          rotate_left
          ·show Act.put _ (some 75) _ = _
           simp only [Act.put, List.setIfInBounds_toArray, List.set_cons_zero, List.set_cons_succ, i64_w, i32_w]
           rfl
          refine one_ (i := 3) (N := some 76) #[true, true, true, true, false] rfl rfl (by kernel_rfl) (by decide) (fun K hK => ?_)
          refine goes_ Try.func15 (by kernel_rfl) rfl #[.agg #[.int .i64 t850, .slice Ao45 t851.length co45, .slice Ao46 t854.length co46], .agg #[.int .i64 t875, .slice Ao103 t876.length co103, .slice Ao104 t879.length co104]] (by rfl) rfl rfl qG ?_
          with_reducible refine (laws_eqCircuit.calls kj20 t850 _ _ t851 _ _ t854 t875 _ _ t876 _ _ t879 true _ ?side1 ?side2 ?side3 ?side4 ?side5 ?side6 ?side7 ?side8 A89.out).mono ?_
          (case side1 => repeat (first | exact (Kd.R_reads' HO_858001.out).2.2 | (with_reducible refine Kd.C_alloc ?_ _) | (with_reducible refine Kd.C_drewN ?_ _) | (with_reducible refine Kd.C_drew ?_)))
          (case side2 => exact (Kd.R_reads' HO_858001.out).2.1)
          (case side3 => repeat (first | exact (Kd.R_reads' HO_858002.out).2.2 | (with_reducible refine Kd.C_alloc ?_ _) | (with_reducible refine Kd.C_drewN ?_ _) | (with_reducible refine Kd.C_drew ?_)))
          (case side4 => exact (Kd.R_reads' HO_858002.out).2.1)
          (case side5 => repeat (first | exact (Kd.R_reads' HO878.out).2.2 | (with_reducible refine Kd.C_alloc ?_ _) | (with_reducible refine Kd.C_drewN ?_ _) | (with_reducible refine Kd.C_drew ?_)))
          (case side6 => exact (Kd.R_reads' HO878.out).2.1)
          (case side7 => repeat (first | exact (Kd.R_reads' HO881.out).2.2 | (with_reducible refine Kd.C_alloc ?_ _) | (with_reducible refine Kd.C_drewN ?_ _) | (with_reducible refine Kd.C_drew ?_)))
          (case side8 => exact (Kd.R_reads' HO881.out).2.1)
          rintro e w105 ⟨rfl, hb⟩
          refine ⟨_, rfl, ?_⟩
          have n0_ := Aside0.mk (Kd.R_below (qR HO_12.out) hb)
          have n1_ := Aside0.mk (Kd.R_below (qR HO_13.out) hb)
          have n2_ := Aside0.mk (Kd.R_below (qR HO_850001.out) hb)
          have n3_ := Aside0.mk (Kd.R_below (qR HO_850002.out) hb)
          have n4_ := Aside0.mk (Kd.R_below (qR HO_858001.out) hb)
          have n5_ := Aside0.mk (Kd.R_below (qR HO_858002.out) hb)
          have n6_ := Aside0.mk (Kd.R_below (qR HO_874001.out) hb)
          have n7_ := Aside0.mk (Kd.R_below (qR HO_874002.out) hb)
          have n8_ := Aside0.mk (Kd.R_below (qR HO878.out) hb)
          have n9_ := Aside0.mk (Kd.R_below (qR HO881.out) hb)
          have n10_ := Aside0.mk (blk_below (g := gb825) (o := .cells #[.int .i64 a0_0, .slice A0_1 l0_1.length c0_1, .slice A0_2 l0_2.length c0_2] 25 (0, 0)) (qK BK825.out) hb)
          have n11_ := Aside0.mk (blk_below (g := gb849) (o := .cells #[.int .i64 t840, .slice Ao37 t841.length co37, .slice Ao38 t844.length co38] 30 (0, 0)) (qK BK849.out) hb)
          have n12_ := Aside0.mk (blk_below (g := gb857) (o := .cells #[.int .i64 t850, .slice Ao45 t851.length co45, .slice Ao46 t854.length co46] 30 (0, 0)) (qK BK857.out) hb)
          have n13_ := Aside0.mk (blk_below (g := gb873) (o := .cells #[.int .i64 t864, .slice Ao58 t865.length co58, .slice Ao59 t868.length co59] 30 (0, 0)) (qK BK873.out) hb)
          have n14_ := Aside0.mk (below_step (qB) hb)
          clear HO_12
          clear HO_13
          clear HO_850001
          clear HO_850002
          clear HO_858001
          clear HO_858002
          clear HO_874001
          clear HO_874002
          clear HO878
          clear HO881
          clear BK825
          clear BK849
          clear BK857
          clear BK873
          clear HB
          have HO_12 := n0_
          have HO_13 := n1_
          have HO_850001 := n2_
          have HO_850002 := n3_
          have HO_858001 := n4_
          have HO_858002 := n5_
          have HO_874001 := n6_
          have HO_874002 := n7_
          have HO878 := n8_
          have HO881 := n9_
          have BK825 := n10_
          have BK849 := n11_
          have BK857 := n12_
          have BK873 := n13_
          have HB := n14_
          clear n0_ n1_ n2_ n3_ n4_ n5_ n6_ n7_ n8_ n9_ n10_ n11_ n12_ n13_ n14_
          (try clear hb)
          (try clear hb2)
          (try clear hk)
          (try clear hi)
          refine hK.out _ _ ⟨(blk_cell BK857.out 0).trans rfl, (blk_cell BK857.out 1).trans rfl, (blk_cell BK857.out 2).trans rfl, (blk_cell BK825.out 0).trans rfl, (blk_cell BK825.out 1).trans rfl, (blk_cell BK825.out 2).trans rfl⟩ (fun hHeld => ?_)
          clear hK K
          refine norm_ (a' := ?_) ?_ ?_
          rotate_left
          ·show Act.put _ (some 76) _ = _
           simp only [Act.put, List.setIfInBounds_toArray, List.set_cons_zero, List.set_cons_succ, i64_w, i32_w]
           rfl
          refine pure_ (i := 4) (N := some 77) (v := ?_) (a' := ?_) #[true, true, true, true, true] rfl rfl (by kernel_rfl) (fun _ _ _ h => h) (Or.inl ⟨by rfl, ?_⟩) ?_ ?_
          rotate_left
          ·intro w'
           go_simp
           with_reducible rfl
          rotate_left
          ·simp only [Act.put, List.setIfInBounds_toArray, List.set_cons_zero, List.set_cons_succ, i64_w, i32_w]
           rfl
          refine done_ (by kernel_rfl) ?_
          go_upto_region 26 with (first | ((with_reducible refine gate_callee (f := 34) rfl ?_); refine goesL_ (some 80) rfl rfl Try.func34 (by kernel_rfl) rfl #[.slice A1 l1.length c1] rfl qG ?_; (with_reducible refine (laws_toIntS.calls kj20 _ _ l1 t883 _ ?side1 ?side2 A91.out).mono ?_); (case side1 => exact qC (Kd.C_below HR1.out HB.out)); (case side2 => exact HC1.out); rintro e w106 ⟨v884, rfl, ho0, hb⟩; refine ⟨_, rfl, ?_⟩; have n0_ := Aside0.mk (Kd.R_elder' (qR HO_12.out) (Kd.R_base ho0) hb); have n1_ := Aside0.mk (Kd.R_elder' (qR HO_13.out) (Kd.R_base ho0) hb); have n2_ := Aside0.mk (Kd.R_below (qR HO_850001.out) hb); have n3_ := Aside0.mk (Kd.R_elder' (qR HO_850002.out) (Kd.R_base ho0) hb); have n4_ := Aside0.mk (Kd.R_below (qR HO_858001.out) hb); have n5_ := Aside0.mk (Kd.R_elder' (qR HO_858002.out) (Kd.R_base ho0) hb); have n6_ := Aside0.mk (Kd.R_below (qR HO_874001.out) hb); have n7_ := Aside0.mk (Kd.R_elder' (qR HO_874002.out) (Kd.R_base ho0) hb); have n8_ := Aside0.mk (Kd.R_below (qR HO878.out) hb); have n9_ := Aside0.mk (Kd.R_elder' (qR HO881.out) (Kd.R_base ho0) hb); have n10_ := Aside0.mk (Kd.R_lower (Kd.R_new' (Kd.R_new' (Kd.R_new' (Kd.R_new' (Kd.R_new' (Kd.R_new' ho0 (Kd.R_lt (qR HO_12.out))) (Kd.R_lt (qR HO_13.out))) (Kd.R_lt (qR HO_850002.out))) (Kd.R_lt (qR HO_858002.out))) (Kd.R_lt (qR HO_874002.out))) (Kd.R_lt (qR HO881.out))) (below_size (qB))); have n11_ := Aside0.mk (blk_below (g := gb825) (o := .cells #[.int .i64 a0_0, .slice A0_1 l0_1.length c0_1, .slice A0_2 l0_2.length c0_2] 25 (0, 0)) (qK BK825.out) hb); have n12_ := Aside0.mk (blk_below (g := gb849) (o := .cells #[.int .i64 t840, .slice Ao37 t841.length co37, .slice Ao38 t844.length co38] 30 (0, 0)) (qK BK849.out) hb); have n13_ := Aside0.mk (blk_below (g := gb857) (o := .cells #[.int .i64 t850, .slice Ao45 t851.length co45, .slice Ao46 t854.length co46] 30 (0, 0)) (qK BK857.out) hb); have n14_ := Aside0.mk (blk_below (g := gb873) (o := .cells #[.int .i64 t864, .slice Ao58 t865.length co58, .slice Ao59 t868.length co59] 30 (0, 0)) (qK BK873.out) hb); have n15_ := Aside0.mk (below_step (qB) hb); clear HO_12; clear HO_13; clear HO_850001; clear HO_850002; clear HO_858001; clear HO_858002; clear HO_874001; clear HO_874002; clear HO878; clear HO881; clear BK825; clear BK849; clear BK857; clear BK873; clear HB; have HO_12 := n0_; have HO_13 := n1_; have HO_850001 := n2_; have HO_850002 := n3_; have HO_858001 := n4_; have HO_858002 := n5_; have HO_874001 := n6_; have HO_874002 := n7_; have HO878 := n8_; have HO881 := n9_; have HO885 := n10_; have BK825 := n11_; have BK849 := n12_; have BK857 := n13_; have BK873 := n14_; have HB := n15_; clear n0_ n1_ n2_ n3_ n4_ n5_ n6_ n7_ n8_ n9_ n10_ n11_ n12_ n13_ n14_ n15_; (try clear hb); (try clear hb2); (try clear hk); (try clear hi); (try clear ho0); obtain ⟨Ao107, co107, eo107⟩ := Kd.R_slice HO885.out; subst eo107) | ((with_reducible refine gate_callee (f := 27) rfl ?_); refine goesL_ (some 81) rfl rfl Try.func27 (by kernel_rfl) rfl #[.slice Ao50 t858.length co50, .slice Ao107 t883.length co107] rfl qG ?_; (with_reducible refine (laws_eqIntS.calls kj20 _ _ t858 _ _ t883 true _ ?side1 ?side2 ?side3 ?side4 A92.out).mono ?_); (case side1 => repeat (first | exact (Kd.R_reads' HO_12.out).2.2 | (with_reducible refine Kd.C_alloc ?_ _) | (with_reducible refine Kd.C_drewN ?_ _) | (with_reducible refine Kd.C_drew ?_))); (case side2 => exact (Kd.R_reads' HO_12.out).2.1); (case side3 => repeat (first | exact (Kd.R_reads' HO885.out).2.2 | (with_reducible refine Kd.C_alloc ?_ _) | (with_reducible refine Kd.C_drewN ?_ _) | (with_reducible refine Kd.C_drew ?_))); (case side4 => exact (Kd.R_reads' HO885.out).2.1); rintro e w' ⟨rfl, ⟨nd, rfl⟩⟩; refine ⟨_, rfl, ?_⟩) | ((with_reducible refine gate_callee (f := 34) rfl ?_); refine goesL_ (some 85) rfl rfl Try.func34 (by kernel_rfl) rfl #[.slice A2 l2.length c2] rfl qG ?_; (with_reducible refine (laws_toIntS.calls kj20 _ _ l2 t887 _ ?side1 ?side2 A94.out).mono ?_); (case side1 => repeat (first | exact (Kd.C_below HR2.out (qB)) | (with_reducible refine Kd.C_alloc ?_ _) | (with_reducible refine Kd.C_drewN ?_ _) | (with_reducible refine Kd.C_drew ?_))); (case side2 => exact HC2.out); rintro e w108 ⟨v888, rfl, ho0, hb⟩; refine ⟨_, rfl, ?_⟩; have n0_ := Aside0.mk (Kd.R_elder' (qR HO_12.out) (Kd.R_base ho0) hb); have n1_ := Aside0.mk (Kd.R_elder' (qR HO_13.out) (Kd.R_base ho0) hb); have n2_ := Aside0.mk (Kd.R_below (qR HO_850001.out) hb); have n3_ := Aside0.mk (Kd.R_elder' (qR HO_850002.out) (Kd.R_base ho0) hb); have n4_ := Aside0.mk (Kd.R_below (qR HO_858001.out) hb); have n5_ := Aside0.mk (Kd.R_elder' (qR HO_858002.out) (Kd.R_base ho0) hb); have n6_ := Aside0.mk (Kd.R_below (qR HO_874001.out) hb); have n7_ := Aside0.mk (Kd.R_elder' (qR HO_874002.out) (Kd.R_base ho0) hb); have n8_ := Aside0.mk (Kd.R_below (qR HO878.out) hb); have n9_ := Aside0.mk (Kd.R_elder' (qR HO881.out) (Kd.R_base ho0) hb); have n10_ := Aside0.mk (Kd.R_elder' (qR HO885.out) (Kd.R_base ho0) hb); have n11_ := Aside0.mk (Kd.R_lower (Kd.R_new' (Kd.R_new' (Kd.R_new' (Kd.R_new' (Kd.R_new' (Kd.R_new' (Kd.R_new' ho0 (Kd.R_lt (qR HO_12.out))) (Kd.R_lt (qR HO_13.out))) (Kd.R_lt (qR HO_850002.out))) (Kd.R_lt (qR HO_858002.out))) (Kd.R_lt (qR HO_874002.out))) (Kd.R_lt (qR HO881.out))) (Kd.R_lt (qR HO885.out))) (below_size (qB))); have n12_ := Aside0.mk (blk_below (g := gb825) (o := .cells #[.int .i64 a0_0, .slice A0_1 l0_1.length c0_1, .slice A0_2 l0_2.length c0_2] 25 (0, 0)) (qK BK825.out) hb); have n13_ := Aside0.mk (blk_below (g := gb849) (o := .cells #[.int .i64 t840, .slice Ao37 t841.length co37, .slice Ao38 t844.length co38] 30 (0, 0)) (qK BK849.out) hb); have n14_ := Aside0.mk (blk_below (g := gb857) (o := .cells #[.int .i64 t850, .slice Ao45 t851.length co45, .slice Ao46 t854.length co46] 30 (0, 0)) (qK BK857.out) hb); have n15_ := Aside0.mk (blk_below (g := gb873) (o := .cells #[.int .i64 t864, .slice Ao58 t865.length co58, .slice Ao59 t868.length co59] 30 (0, 0)) (qK BK873.out) hb); have n16_ := Aside0.mk (below_step (qB) hb); clear HO_12; clear HO_13; clear HO_850001; clear HO_850002; clear HO_858001; clear HO_858002; clear HO_874001; clear HO_874002; clear HO878; clear HO881; clear HO885; clear BK825; clear BK849; clear BK857; clear BK873; clear HB; have HO_12 := n0_; have HO_13 := n1_; have HO_850001 := n2_; have HO_850002 := n3_; have HO_858001 := n4_; have HO_858002 := n5_; have HO_874001 := n6_; have HO_874002 := n7_; have HO878 := n8_; have HO881 := n9_; have HO885 := n10_; have HO889 := n11_; have BK825 := n12_; have BK849 := n13_; have BK857 := n14_; have BK873 := n15_; have HB := n16_; clear n0_ n1_ n2_ n3_ n4_ n5_ n6_ n7_ n8_ n9_ n10_ n11_ n12_ n13_ n14_ n15_ n16_; (try clear hb); (try clear hb2); (try clear hk); (try clear hi); (try clear ho0); obtain ⟨Ao109, co109, eo109⟩ := Kd.R_slice HO889.out; subst eo109) | ((with_reducible refine gate_callee (f := 27) rfl ?_); refine goesL_ (some 86) rfl rfl Try.func27 (by kernel_rfl) rfl #[.slice Ao51 t861.length co51, .slice Ao109 t887.length co109] rfl qG ?_; (with_reducible refine (laws_eqIntS.calls kj20 _ _ t861 _ _ t887 true _ ?side1 ?side2 ?side3 ?side4 A95.out).mono ?_); (case side1 => repeat (first | exact (Kd.R_reads' HO_13.out).2.2 | (with_reducible refine Kd.C_alloc ?_ _) | (with_reducible refine Kd.C_drewN ?_ _) | (with_reducible refine Kd.C_drew ?_))); (case side2 => exact (Kd.R_reads' HO_13.out).2.1); (case side3 => repeat (first | exact (Kd.R_reads' HO889.out).2.2 | (with_reducible refine Kd.C_alloc ?_ _) | (with_reducible refine Kd.C_drewN ?_ _) | (with_reducible refine Kd.C_drew ?_))); (case side4 => exact (Kd.R_reads' HO889.out).2.1); rintro e w' ⟨rfl, ⟨nd, rfl⟩⟩; refine ⟨_, rfl, ?_⟩; have hnb110 := NB857_825.out; have hnc110 := NB825_857.out; have hnb111 := NB857_849.out; have hnc111 := NB849_857.out; have hnb112 := NB857_873.out; have hnc112 := NB873_857.out; have hcz113_0 : w108.cell? ⟨gb857, 0, none⟩ = some (.int .i64 t850) := (blk_cell BK857.out 0).trans rfl; have hcz113_1 : w108.cell? ⟨gb857, 1, none⟩ = some (.slice Ao45 t851.length co45) := (blk_cell BK857.out 1).trans rfl; have hcz113_2 : w108.cell? ⟨gb857, 2, none⟩ = some (.slice Ao46 t854.length co46) := (blk_cell BK857.out 2).trans rfl; have hfz113_0 := blk_frozen BK857.out 0; have hfz113_1 := blk_frozen BK857.out 1; have hfz113_2 := blk_frozen BK857.out 2) | ((with_reducible refine gate_callee (f := 20) rfl ?_); refine goesL_ (some 90) rfl rfl Try.func20 (by kernel_rfl) rfl #[.agg #[.int .i64 t850, .slice Ao45 t851.length co45, .slice Ao46 t854.length co46], .int .i64 1] rfl qG ?_; (with_reducible refine (laws_markCircuit.calls kj20 t850 (fun k_ => some k_ = (.slice Ao45 t851.length co45 : Value).ownBlock) (.slice Ao45 t851.length co45) t851 (fun k_ => some k_ = (.slice Ao46 t854.length co46 : Value).ownBlock) (.slice Ao46 t854.length co46) t854 1 t891 t892 t893 w _ ?side1 ?side2 ?side3 A97.out).mono ?_); (case side1 => repeat (first | (with_reducible first | exact HB.out | apply below_alloc | apply pw_below_drewN | apply below_drew1 | refine below_set ?_ GE825.out | refine below_set ?_ GE849.out | refine below_set ?_ GE857.out | refine below_set ?_ GE873.out) | exact HB.out)); (case side2 => exact Kd.R_tight rfl HO_858001.out); (case side3 => exact Kd.R_tight rfl HO_858002.out); rintro e w114 ⟨rfl, hy0, hy1, hb, hkp⟩; refine ⟨_, rfl, ?_⟩; have n0_ := Aside0.mk (Kd.R_mono (ok' := fun k_ => some k_ ≠ (.slice Ao51 t861.length co51 : Value).ownBlock ∧ some k_ ≠ (.slice Ao38 t844.length co38 : Value).ownBlock ∧ some k_ ≠ (.slice Ao46 t854.length co46 : Value).ownBlock ∧ some k_ ≠ (.slice Ao59 t868.length co59 : Value).ownBlock ∧ some k_ ≠ (.slice Ao104 t879.length co104 : Value).ownBlock ∧ some k_ ≠ (.slice Ao107 t883.length co107 : Value).ownBlock ∧ some k_ ≠ (.slice Ao109 t887.length co109 : Value).ownBlock) (Kd.R_keptB ((Kd.R_apart' HO_12.out (Kd.R_typed HO_858001.out) (by decide))) hkp (fun k_ hk_ hs_ => Or.elim hs_ (fun e_ => (hk_.2) e_) (fun e_ => (hk_.1.1.1.1.2.2.1) e_))) (fun k_ hk_ => ⟨hk_.1.1.1.1.1.1, hk_.1.1.1.1.1.2.1, hk_.1.1.1.1.1.2.2.1, hk_.1.1.1.1.1.2.2.2, hk_.1.1.1.1.2, hk_.1.1.1.2, hk_.1.1.2⟩)); have n1_ := Aside0.mk (Kd.R_mono (ok' := fun k_ => some k_ ≠ (.slice Ao50 t858.length co50 : Value).ownBlock ∧ some k_ ≠ (.slice Ao38 t844.length co38 : Value).ownBlock ∧ some k_ ≠ (.slice Ao46 t854.length co46 : Value).ownBlock ∧ some k_ ≠ (.slice Ao59 t868.length co59 : Value).ownBlock ∧ some k_ ≠ (.slice Ao104 t879.length co104 : Value).ownBlock ∧ some k_ ≠ (.slice Ao107 t883.length co107 : Value).ownBlock ∧ some k_ ≠ (.slice Ao109 t887.length co109 : Value).ownBlock) (Kd.R_keptB ((Kd.R_apart' HO_13.out (Kd.R_typed HO_858001.out) (by decide))) hkp (fun k_ hk_ hs_ => Or.elim hs_ (fun e_ => (hk_.2) e_) (fun e_ => (hk_.1.1.1.1.2.2.1) e_))) (fun k_ hk_ => ⟨hk_.1.1.1.1.1.1, hk_.1.1.1.1.1.2.1, hk_.1.1.1.1.1.2.2.1, hk_.1.1.1.1.1.2.2.2, hk_.1.1.1.1.2, hk_.1.1.1.2, hk_.1.1.2⟩)); have n2_ := Aside0.mk (Kd.R_mono (ok' := fun k_ => some k_ ≠ (.slice Ao45 t851.length co45 : Value).ownBlock ∧ some k_ ≠ (.slice Ao58 t865.length co58 : Value).ownBlock ∧ some k_ ≠ (.slice Ao103 t876.length co103 : Value).ownBlock) (Kd.R_keptB ((Kd.R_apart' HO_850001.out (Kd.R_typed HO_858002.out) (by decide))) hkp (fun k_ hk_ hs_ => Or.elim hs_ (fun e_ => (hk_.1.1.1) e_) (fun e_ => (hk_.2) e_))) (fun k_ hk_ => ⟨hk_.1.1.1.1, hk_.1.1.1.2, hk_.1.1.2⟩)); have n3_ := Aside0.mk (Kd.R_mono (ok' := fun k_ => some k_ ≠ (.slice Ao50 t858.length co50 : Value).ownBlock ∧ some k_ ≠ (.slice Ao51 t861.length co51 : Value).ownBlock ∧ some k_ ≠ (.slice Ao46 t854.length co46 : Value).ownBlock ∧ some k_ ≠ (.slice Ao59 t868.length co59 : Value).ownBlock ∧ some k_ ≠ (.slice Ao104 t879.length co104 : Value).ownBlock ∧ some k_ ≠ (.slice Ao107 t883.length co107 : Value).ownBlock ∧ some k_ ≠ (.slice Ao109 t887.length co109 : Value).ownBlock) (Kd.R_keptB ((Kd.R_apart' HO_850002.out (Kd.R_typed HO_858001.out) (by decide))) hkp (fun k_ hk_ hs_ => Or.elim hs_ (fun e_ => (hk_.2) e_) (fun e_ => (hk_.1.1.1.1.2.2.1) e_))) (fun k_ hk_ => ⟨hk_.1.1.1.1.1.1, hk_.1.1.1.1.1.2.1, hk_.1.1.1.1.1.2.2.1, hk_.1.1.1.1.1.2.2.2, hk_.1.1.1.1.2, hk_.1.1.1.2, hk_.1.1.2⟩)); have n4_ := Aside0.mk (Kd.R_reok rfl hy0 (fun k_ e_ => HO_858001.out.1 k_ e_)); have n5_ := Aside0.mk (Kd.R_reok rfl hy1 (fun k_ e_ => HO_858002.out.1 k_ e_)); have n6_ := Aside0.mk (Kd.R_mono (ok' := fun k_ => some k_ ≠ (.slice Ao37 t841.length co37 : Value).ownBlock ∧ some k_ ≠ (.slice Ao45 t851.length co45 : Value).ownBlock ∧ some k_ ≠ (.slice Ao103 t876.length co103 : Value).ownBlock) (Kd.R_keptB ((Kd.R_apart' HO_874001.out (Kd.R_typed HO_858002.out) (by decide))) hkp (fun k_ hk_ hs_ => Or.elim hs_ (fun e_ => (hk_.1.1.2) e_) (fun e_ => (hk_.2) e_))) (fun k_ hk_ => ⟨hk_.1.1.1.1, hk_.1.1.1.2, hk_.1.1.2⟩)); have n7_ := Aside0.mk (Kd.R_mono (ok' := fun k_ => some k_ ≠ (.slice Ao50 t858.length co50 : Value).ownBlock ∧ some k_ ≠ (.slice Ao51 t861.length co51 : Value).ownBlock ∧ some k_ ≠ (.slice Ao38 t844.length co38 : Value).ownBlock ∧ some k_ ≠ (.slice Ao46 t854.length co46 : Value).ownBlock ∧ some k_ ≠ (.slice Ao104 t879.length co104 : Value).ownBlock ∧ some k_ ≠ (.slice Ao107 t883.length co107 : Value).ownBlock ∧ some k_ ≠ (.slice Ao109 t887.length co109 : Value).ownBlock) (Kd.R_keptB ((Kd.R_apart' HO_874002.out (Kd.R_typed HO_858001.out) (by decide))) hkp (fun k_ hk_ hs_ => Or.elim hs_ (fun e_ => (hk_.2) e_) (fun e_ => (hk_.1.1.1.1.2.2.2) e_))) (fun k_ hk_ => ⟨hk_.1.1.1.1.1.1, hk_.1.1.1.1.1.2.1, hk_.1.1.1.1.1.2.2.1, hk_.1.1.1.1.1.2.2.2, hk_.1.1.1.1.2, hk_.1.1.1.2, hk_.1.1.2⟩)); have n8_ := Aside0.mk (blk_kept BK825.out hkp (fun hs_ => Or.elim hs_ (fun e_ => (fun e_ => (Kd.R_ne HO_858001.out BK825.out (by decide)) e_) e_) (fun e_ => (fun e_ => (Kd.R_ne HO_858002.out BK825.out (by decide)) e_) e_))); have n9_ := Aside0.mk (blk_kept BK849.out hkp (fun hs_ => Or.elim hs_ (fun e_ => (fun e_ => (Kd.R_ne HO_858001.out BK849.out (by decide)) e_) e_) (fun e_ => (fun e_ => (Kd.R_ne HO_858002.out BK849.out (by decide)) e_) e_))); have n10_ := Aside0.mk (blk_kept BK857.out hkp (fun hs_ => Or.elim hs_ (fun e_ => (fun e_ => (Kd.R_ne HO_858001.out BK857.out (by decide)) e_) e_) (fun e_ => (fun e_ => (Kd.R_ne HO_858002.out BK857.out (by decide)) e_) e_))); have n11_ := Aside0.mk (blk_kept BK873.out hkp (fun hs_ => Or.elim hs_ (fun e_ => (fun e_ => (Kd.R_ne HO_858001.out BK873.out (by decide)) e_) e_) (fun e_ => (fun e_ => (Kd.R_ne HO_858002.out BK873.out (by decide)) e_) e_))); have n12_ := Aside0.mk (Kd.R_mono (ok' := fun k_ => some k_ ≠ (.slice Ao37 t841.length co37 : Value).ownBlock ∧ some k_ ≠ (.slice Ao45 t851.length co45 : Value).ownBlock ∧ some k_ ≠ (.slice Ao58 t865.length co58 : Value).ownBlock) (Kd.R_keptB ((Kd.R_apart' HO878.out (Kd.R_typed HO_858002.out) (by decide))) hkp (fun k_ hk_ hs_ => Or.elim hs_ (fun e_ => (hk_.1.1.2) e_) (fun e_ => (hk_.2) e_))) (fun k_ hk_ => ⟨hk_.1.1.1.1.2, hk_.1.1.1.2, hk_.1.1.2⟩)); have n13_ := Aside0.mk (Kd.R_mono (ok' := fun k_ => some k_ ≠ (.slice Ao50 t858.length co50 : Value).ownBlock ∧ some k_ ≠ (.slice Ao51 t861.length co51 : Value).ownBlock ∧ some k_ ≠ (.slice Ao38 t844.length co38 : Value).ownBlock ∧ some k_ ≠ (.slice Ao46 t854.length co46 : Value).ownBlock ∧ some k_ ≠ (.slice Ao59 t868.length co59 : Value).ownBlock ∧ some k_ ≠ (.slice Ao107 t883.length co107 : Value).ownBlock ∧ some k_ ≠ (.slice Ao109 t887.length co109 : Value).ownBlock) (Kd.R_keptB ((Kd.R_apart' HO881.out (Kd.R_typed HO_858001.out) (by decide))) hkp (fun k_ hk_ hs_ => Or.elim hs_ (fun e_ => (hk_.2) e_) (fun e_ => (hk_.1.1.1.1.2) e_))) (fun k_ hk_ => ⟨hk_.1.1.1.1.1.1.1.1.2, hk_.1.1.1.1.1.1.1.2, hk_.1.1.1.1.1.1.2, hk_.1.1.1.1.1.2, hk_.1.1.1.1.2, hk_.1.1.1.2, hk_.1.1.2⟩)); have n14_ := Aside0.mk (Kd.R_mono (ok' := fun k_ => some k_ ≠ (.slice Ao50 t858.length co50 : Value).ownBlock ∧ some k_ ≠ (.slice Ao51 t861.length co51 : Value).ownBlock ∧ some k_ ≠ (.slice Ao38 t844.length co38 : Value).ownBlock ∧ some k_ ≠ (.slice Ao46 t854.length co46 : Value).ownBlock ∧ some k_ ≠ (.slice Ao59 t868.length co59 : Value).ownBlock ∧ some k_ ≠ (.slice Ao104 t879.length co104 : Value).ownBlock ∧ some k_ ≠ (.slice Ao109 t887.length co109 : Value).ownBlock) (Kd.R_keptB ((Kd.R_apart' HO885.out (Kd.R_typed HO_858001.out) (by decide))) hkp (fun k_ hk_ hs_ => Or.elim hs_ (fun e_ => (hk_.2) e_) (fun e_ => (hk_.1.1.1.1.2) e_))) (fun k_ hk_ => ⟨hk_.1.1.1.1.1.1.1.1.2, hk_.1.1.1.1.1.1.1.2, hk_.1.1.1.1.1.1.2, hk_.1.1.1.1.1.2, hk_.1.1.1.1.2, hk_.1.1.1.2, hk_.1.1.2⟩)); have n15_ := Aside0.mk (Kd.R_mono (ok' := fun k_ => some k_ ≠ (.slice Ao50 t858.length co50 : Value).ownBlock ∧ some k_ ≠ (.slice Ao51 t861.length co51 : Value).ownBlock ∧ some k_ ≠ (.slice Ao38 t844.length co38 : Value).ownBlock ∧ some k_ ≠ (.slice Ao46 t854.length co46 : Value).ownBlock ∧ some k_ ≠ (.slice Ao59 t868.length co59 : Value).ownBlock ∧ some k_ ≠ (.slice Ao104 t879.length co104 : Value).ownBlock ∧ some k_ ≠ (.slice Ao107 t883.length co107 : Value).ownBlock) (Kd.R_keptB ((Kd.R_apart' HO889.out (Kd.R_typed HO_858001.out) (by decide))) hkp (fun k_ hk_ hs_ => Or.elim hs_ (fun e_ => (hk_.2) e_) (fun e_ => (hk_.1.1.1.1.2) e_))) (fun k_ hk_ => ⟨hk_.1.1.1.1.1.1.1.1.2, hk_.1.1.1.1.1.1.1.2, hk_.1.1.1.1.1.1.2, hk_.1.1.1.1.1.2, hk_.1.1.1.1.2, hk_.1.1.1.2, hk_.1.1.2⟩)); have n16_ := Aside0.mk (hb); clear HO_12; clear HO_13; clear HO_850001; clear HO_850002; clear HO_858001; clear HO_858002; clear HO_874001; clear HO_874002; clear BK825; clear BK849; clear BK857; clear BK873; clear HO878; clear HO881; clear HO885; clear HO889; clear HB; have HO_12 := n0_; have HO_13 := n1_; have HO_850001 := n2_; have HO_850002 := n3_; have HO_858001 := n4_; have HO_858002 := n5_; have HO_874001 := n6_; have HO_874002 := n7_; have BK825 := n8_; have BK849 := n9_; have BK857 := n10_; have BK873 := n11_; have HO878 := n12_; have HO881 := n13_; have HO885 := n14_; have HO889 := n15_; have HB := n16_; clear n0_ n1_ n2_ n3_ n4_ n5_ n6_ n7_ n8_ n9_ n10_ n11_ n12_ n13_ n14_ n15_ n16_; (try clear hb); (try clear hkp); (try clear hy0); (try clear hy1)) | ((with_reducible refine gate_callee (f := 28) rfl ?_); refine goesL_ (some 93) rfl rfl Try.func28 (by kernel_rfl) rfl #[.slice Ao50 t858.length co50, .int .i64 t891] rfl qG ?_; (with_reducible refine (laws_markIntS.calls kj20 (fun k_ => some k_ = (.slice Ao50 t858.length co50 : Value).ownBlock) (.slice Ao50 t858.length co50) t858 t891 t894 t895 w _ ?side1 ?side2 A98.out).mono ?_); (case side1 => repeat (first | (with_reducible first | exact HB.out | apply below_alloc | apply pw_below_drewN | apply below_drew1 | refine below_set ?_ GE825.out | refine below_set ?_ GE849.out | refine below_set ?_ GE857.out | refine below_set ?_ GE873.out) | exact HB.out)); (case side2 => exact Kd.R_tight rfl HO_12.out); rintro e w115 ⟨rfl, hy0, hb, hkp⟩; refine ⟨_, rfl, ?_⟩; have n0_ := Aside0.mk (Kd.R_reok rfl hy0 (fun k_ e_ => HO_12.out.1 k_ e_)); have n1_ := Aside0.mk (Kd.R_mono (ok' := fun k_ => some k_ ≠ (.slice Ao50 t858.length co50 : Value).ownBlock ∧ some k_ ≠ (.slice Ao38 t844.length co38 : Value).ownBlock ∧ some k_ ≠ (.slice Ao46 t854.length co46 : Value).ownBlock ∧ some k_ ≠ (.slice Ao59 t868.length co59 : Value).ownBlock ∧ some k_ ≠ (.slice Ao104 t879.length co104 : Value).ownBlock ∧ some k_ ≠ (.slice Ao107 t883.length co107 : Value).ownBlock ∧ some k_ ≠ (.slice Ao109 t887.length co109 : Value).ownBlock) (Kd.R_keptB (HO_13.out) hkp (fun k_ hk_ hs_ => (hk_.1) hs_)) (fun k_ hk_ => ⟨hk_.1.1, hk_.1.2.1, hk_.1.2.2.1, hk_.1.2.2.2.1, hk_.1.2.2.2.2.1, hk_.1.2.2.2.2.2.1, hk_.1.2.2.2.2.2.2⟩)); have n2_ := Aside0.mk (Kd.R_mono (ok' := fun k_ => some k_ ≠ (.slice Ao45 t851.length co45 : Value).ownBlock ∧ some k_ ≠ (.slice Ao58 t865.length co58 : Value).ownBlock ∧ some k_ ≠ (.slice Ao103 t876.length co103 : Value).ownBlock) (Kd.R_keptB ((Kd.R_apart' HO_850001.out (Kd.R_typed HO_12.out) (by decide))) hkp (fun k_ hk_ hs_ => (hk_.2) hs_)) (fun k_ hk_ => ⟨hk_.1.1.1, hk_.1.1.2.1, hk_.1.1.2.2⟩)); have n3_ := Aside0.mk (Kd.R_mono (ok' := fun k_ => some k_ ≠ (.slice Ao50 t858.length co50 : Value).ownBlock ∧ some k_ ≠ (.slice Ao51 t861.length co51 : Value).ownBlock ∧ some k_ ≠ (.slice Ao46 t854.length co46 : Value).ownBlock ∧ some k_ ≠ (.slice Ao59 t868.length co59 : Value).ownBlock ∧ some k_ ≠ (.slice Ao104 t879.length co104 : Value).ownBlock ∧ some k_ ≠ (.slice Ao107 t883.length co107 : Value).ownBlock ∧ some k_ ≠ (.slice Ao109 t887.length co109 : Value).ownBlock) (Kd.R_keptB (HO_850002.out) hkp (fun k_ hk_ hs_ => (hk_.1) hs_)) (fun k_ hk_ => ⟨hk_.1.1, hk_.1.2.1, hk_.1.2.2.1, hk_.1.2.2.2.1, hk_.1.2.2.2.2.1, hk_.1.2.2.2.2.2.1, hk_.1.2.2.2.2.2.2⟩)); have n4_ := Aside0.mk (Kd.R_mono (ok' := fun k_ => some k_ ≠ (.slice Ao37 t841.length co37 : Value).ownBlock ∧ some k_ ≠ (.slice Ao58 t865.length co58 : Value).ownBlock ∧ some k_ ≠ (.slice Ao103 t876.length co103 : Value).ownBlock) (Kd.R_keptB ((Kd.R_apart' HO_858001.out (Kd.R_typed HO_12.out) (by decide))) hkp (fun k_ hk_ hs_ => (hk_.2) hs_)) (fun k_ hk_ => ⟨hk_.1.1.1.1, hk_.1.1.1.2, hk_.1.1.2⟩)); have n5_ := Aside0.mk (Kd.R_mono (ok' := fun k_ => some k_ ≠ (.slice Ao50 t858.length co50 : Value).ownBlock ∧ some k_ ≠ (.slice Ao51 t861.length co51 : Value).ownBlock ∧ some k_ ≠ (.slice Ao38 t844.length co38 : Value).ownBlock ∧ some k_ ≠ (.slice Ao59 t868.length co59 : Value).ownBlock ∧ some k_ ≠ (.slice Ao104 t879.length co104 : Value).ownBlock ∧ some k_ ≠ (.slice Ao107 t883.length co107 : Value).ownBlock ∧ some k_ ≠ (.slice Ao109 t887.length co109 : Value).ownBlock) (Kd.R_keptB (HO_858002.out) hkp (fun k_ hk_ hs_ => (hk_.1.1.1.1) hs_)) (fun k_ hk_ => ⟨hk_.1.1.1.1.1, hk_.1.1.1.1.2.1, hk_.1.1.1.1.2.2.1, hk_.1.1.1.1.2.2.2, hk_.1.1.1.2, hk_.1.1.2, hk_.1.2⟩)); have n6_ := Aside0.mk (Kd.R_mono (ok' := fun k_ => some k_ ≠ (.slice Ao37 t841.length co37 : Value).ownBlock ∧ some k_ ≠ (.slice Ao45 t851.length co45 : Value).ownBlock ∧ some k_ ≠ (.slice Ao103 t876.length co103 : Value).ownBlock) (Kd.R_keptB ((Kd.R_apart' HO_874001.out (Kd.R_typed HO_12.out) (by decide))) hkp (fun k_ hk_ hs_ => (hk_.2) hs_)) (fun k_ hk_ => ⟨hk_.1.1.1, hk_.1.1.2.1, hk_.1.1.2.2⟩)); have n7_ := Aside0.mk (Kd.R_mono (ok' := fun k_ => some k_ ≠ (.slice Ao50 t858.length co50 : Value).ownBlock ∧ some k_ ≠ (.slice Ao51 t861.length co51 : Value).ownBlock ∧ some k_ ≠ (.slice Ao38 t844.length co38 : Value).ownBlock ∧ some k_ ≠ (.slice Ao46 t854.length co46 : Value).ownBlock ∧ some k_ ≠ (.slice Ao104 t879.length co104 : Value).ownBlock ∧ some k_ ≠ (.slice Ao107 t883.length co107 : Value).ownBlock ∧ some k_ ≠ (.slice Ao109 t887.length co109 : Value).ownBlock) (Kd.R_keptB (HO_874002.out) hkp (fun k_ hk_ hs_ => (hk_.1) hs_)) (fun k_ hk_ => ⟨hk_.1.1, hk_.1.2.1, hk_.1.2.2.1, hk_.1.2.2.2.1, hk_.1.2.2.2.2.1, hk_.1.2.2.2.2.2.1, hk_.1.2.2.2.2.2.2⟩)); have n8_ := Aside0.mk (blk_kept BK825.out hkp (fun hs_ => (fun e_ => (Kd.R_ne HO_12.out BK825.out (by decide)) e_) hs_)); have n9_ := Aside0.mk (blk_kept BK849.out hkp (fun hs_ => (fun e_ => (Kd.R_ne HO_12.out BK849.out (by decide)) e_) hs_)); have n10_ := Aside0.mk (blk_kept BK857.out hkp (fun hs_ => (fun e_ => (Kd.R_ne HO_12.out BK857.out (by decide)) e_) hs_)); have n11_ := Aside0.mk (blk_kept BK873.out hkp (fun hs_ => (fun e_ => (Kd.R_ne HO_12.out BK873.out (by decide)) e_) hs_)); have n12_ := Aside0.mk (Kd.R_mono (ok' := fun k_ => some k_ ≠ (.slice Ao37 t841.length co37 : Value).ownBlock ∧ some k_ ≠ (.slice Ao45 t851.length co45 : Value).ownBlock ∧ some k_ ≠ (.slice Ao58 t865.length co58 : Value).ownBlock) (Kd.R_keptB ((Kd.R_apart' HO878.out (Kd.R_typed HO_12.out) (by decide))) hkp (fun k_ hk_ hs_ => (hk_.2) hs_)) (fun k_ hk_ => ⟨hk_.1.1.1, hk_.1.1.2.1, hk_.1.1.2.2⟩)); have n13_ := Aside0.mk (Kd.R_mono (ok' := fun k_ => some k_ ≠ (.slice Ao50 t858.length co50 : Value).ownBlock ∧ some k_ ≠ (.slice Ao51 t861.length co51 : Value).ownBlock ∧ some k_ ≠ (.slice Ao38 t844.length co38 : Value).ownBlock ∧ some k_ ≠ (.slice Ao46 t854.length co46 : Value).ownBlock ∧ some k_ ≠ (.slice Ao59 t868.length co59 : Value).ownBlock ∧ some k_ ≠ (.slice Ao107 t883.length co107 : Value).ownBlock ∧ some k_ ≠ (.slice Ao109 t887.length co109 : Value).ownBlock) (Kd.R_keptB (HO881.out) hkp (fun k_ hk_ hs_ => (hk_.1) hs_)) (fun k_ hk_ => ⟨hk_.1.1, hk_.1.2.1, hk_.1.2.2.1, hk_.1.2.2.2.1, hk_.1.2.2.2.2.1, hk_.1.2.2.2.2.2.1, hk_.1.2.2.2.2.2.2⟩)); have n14_ := Aside0.mk (Kd.R_mono (ok' := fun k_ => some k_ ≠ (.slice Ao50 t858.length co50 : Value).ownBlock ∧ some k_ ≠ (.slice Ao51 t861.length co51 : Value).ownBlock ∧ some k_ ≠ (.slice Ao38 t844.length co38 : Value).ownBlock ∧ some k_ ≠ (.slice Ao46 t854.length co46 : Value).ownBlock ∧ some k_ ≠ (.slice Ao59 t868.length co59 : Value).ownBlock ∧ some k_ ≠ (.slice Ao104 t879.length co104 : Value).ownBlock ∧ some k_ ≠ (.slice Ao109 t887.length co109 : Value).ownBlock) (Kd.R_keptB (HO885.out) hkp (fun k_ hk_ hs_ => (hk_.1) hs_)) (fun k_ hk_ => ⟨hk_.1.1, hk_.1.2.1, hk_.1.2.2.1, hk_.1.2.2.2.1, hk_.1.2.2.2.2.1, hk_.1.2.2.2.2.2.1, hk_.1.2.2.2.2.2.2⟩)); have n15_ := Aside0.mk (Kd.R_mono (ok' := fun k_ => some k_ ≠ (.slice Ao50 t858.length co50 : Value).ownBlock ∧ some k_ ≠ (.slice Ao51 t861.length co51 : Value).ownBlock ∧ some k_ ≠ (.slice Ao38 t844.length co38 : Value).ownBlock ∧ some k_ ≠ (.slice Ao46 t854.length co46 : Value).ownBlock ∧ some k_ ≠ (.slice Ao59 t868.length co59 : Value).ownBlock ∧ some k_ ≠ (.slice Ao104 t879.length co104 : Value).ownBlock ∧ some k_ ≠ (.slice Ao107 t883.length co107 : Value).ownBlock) (Kd.R_keptB (HO889.out) hkp (fun k_ hk_ hs_ => (hk_.1) hs_)) (fun k_ hk_ => ⟨hk_.1.1, hk_.1.2.1, hk_.1.2.2.1, hk_.1.2.2.2.1, hk_.1.2.2.2.2.1, hk_.1.2.2.2.2.2.1, hk_.1.2.2.2.2.2.2⟩)); have n16_ := Aside0.mk (hb); clear HO_12; clear HO_13; clear HO_850001; clear HO_850002; clear HO_858001; clear HO_858002; clear HO_874001; clear HO_874002; clear BK825; clear BK849; clear BK857; clear BK873; clear HO878; clear HO881; clear HO885; clear HO889; clear HB; have HO_12 := n0_; have HO_13 := n1_; have HO_850001 := n2_; have HO_850002 := n3_; have HO_858001 := n4_; have HO_858002 := n5_; have HO_874001 := n6_; have HO_874002 := n7_; have BK825 := n8_; have BK849 := n9_; have BK857 := n10_; have BK873 := n11_; have HO878 := n12_; have HO881 := n13_; have HO885 := n14_; have HO889 := n15_; have HB := n16_; clear n0_ n1_ n2_ n3_ n4_ n5_ n6_ n7_ n8_ n9_ n10_ n11_ n12_ n13_ n14_ n15_ n16_; (try clear hb); (try clear hkp); (try clear hy0)) | ((with_reducible refine gate_callee (f := 28) rfl ?_); refine goesL_ (some 96) rfl rfl Try.func28 (by kernel_rfl) rfl #[.slice Ao51 t861.length co51, .int .i64 t894] rfl qG ?_; (with_reducible refine (laws_markIntS.calls kj20 (fun k_ => some k_ = (.slice Ao51 t861.length co51 : Value).ownBlock) (.slice Ao51 t861.length co51) t861 t894 t896 t897 w _ ?side1 ?side2 A99.out).mono ?_); (case side1 => repeat (first | (with_reducible first | exact HB.out | apply below_alloc | apply pw_below_drewN | apply below_drew1 | refine below_set ?_ GE825.out | refine below_set ?_ GE849.out | refine below_set ?_ GE857.out | refine below_set ?_ GE873.out) | exact HB.out)); (case side2 => exact Kd.R_tight rfl HO_13.out); rintro e w116 ⟨rfl, hy0, hb, hkp⟩; refine ⟨_, rfl, ?_⟩; have n0_ := Aside0.mk (Kd.R_mono (ok' := fun k_ => some k_ ≠ (.slice Ao51 t861.length co51 : Value).ownBlock ∧ some k_ ≠ (.slice Ao38 t844.length co38 : Value).ownBlock ∧ some k_ ≠ (.slice Ao46 t854.length co46 : Value).ownBlock ∧ some k_ ≠ (.slice Ao59 t868.length co59 : Value).ownBlock ∧ some k_ ≠ (.slice Ao104 t879.length co104 : Value).ownBlock ∧ some k_ ≠ (.slice Ao107 t883.length co107 : Value).ownBlock ∧ some k_ ≠ (.slice Ao109 t887.length co109 : Value).ownBlock) (Kd.R_keptB (HO_12.out) hkp (fun k_ hk_ hs_ => (hk_.1) hs_)) (fun k_ hk_ => ⟨hk_.1.1, hk_.1.2.1, hk_.1.2.2.1, hk_.1.2.2.2.1, hk_.1.2.2.2.2.1, hk_.1.2.2.2.2.2.1, hk_.1.2.2.2.2.2.2⟩)); have n1_ := Aside0.mk (Kd.R_reok rfl hy0 (fun k_ e_ => HO_13.out.1 k_ e_)); have n2_ := Aside0.mk (Kd.R_mono (ok' := fun k_ => some k_ ≠ (.slice Ao45 t851.length co45 : Value).ownBlock ∧ some k_ ≠ (.slice Ao58 t865.length co58 : Value).ownBlock ∧ some k_ ≠ (.slice Ao103 t876.length co103 : Value).ownBlock) (Kd.R_keptB ((Kd.R_apart' HO_850001.out (Kd.R_typed HO_13.out) (by decide))) hkp (fun k_ hk_ hs_ => (hk_.2) hs_)) (fun k_ hk_ => ⟨hk_.1.1.1, hk_.1.1.2.1, hk_.1.1.2.2⟩)); have n3_ := Aside0.mk (Kd.R_mono (ok' := fun k_ => some k_ ≠ (.slice Ao50 t858.length co50 : Value).ownBlock ∧ some k_ ≠ (.slice Ao51 t861.length co51 : Value).ownBlock ∧ some k_ ≠ (.slice Ao46 t854.length co46 : Value).ownBlock ∧ some k_ ≠ (.slice Ao59 t868.length co59 : Value).ownBlock ∧ some k_ ≠ (.slice Ao104 t879.length co104 : Value).ownBlock ∧ some k_ ≠ (.slice Ao107 t883.length co107 : Value).ownBlock ∧ some k_ ≠ (.slice Ao109 t887.length co109 : Value).ownBlock) (Kd.R_keptB (HO_850002.out) hkp (fun k_ hk_ hs_ => (hk_.2.1) hs_)) (fun k_ hk_ => ⟨hk_.1.1, hk_.1.2.1, hk_.1.2.2.1, hk_.1.2.2.2.1, hk_.1.2.2.2.2.1, hk_.1.2.2.2.2.2.1, hk_.1.2.2.2.2.2.2⟩)); have n4_ := Aside0.mk (Kd.R_mono (ok' := fun k_ => some k_ ≠ (.slice Ao37 t841.length co37 : Value).ownBlock ∧ some k_ ≠ (.slice Ao58 t865.length co58 : Value).ownBlock ∧ some k_ ≠ (.slice Ao103 t876.length co103 : Value).ownBlock) (Kd.R_keptB ((Kd.R_apart' HO_858001.out (Kd.R_typed HO_13.out) (by decide))) hkp (fun k_ hk_ hs_ => (hk_.2) hs_)) (fun k_ hk_ => ⟨hk_.1.1.1, hk_.1.1.2.1, hk_.1.1.2.2⟩)); have n5_ := Aside0.mk (Kd.R_mono (ok' := fun k_ => some k_ ≠ (.slice Ao50 t858.length co50 : Value).ownBlock ∧ some k_ ≠ (.slice Ao51 t861.length co51 : Value).ownBlock ∧ some k_ ≠ (.slice Ao38 t844.length co38 : Value).ownBlock ∧ some k_ ≠ (.slice Ao59 t868.length co59 : Value).ownBlock ∧ some k_ ≠ (.slice Ao104 t879.length co104 : Value).ownBlock ∧ some k_ ≠ (.slice Ao107 t883.length co107 : Value).ownBlock ∧ some k_ ≠ (.slice Ao109 t887.length co109 : Value).ownBlock) (Kd.R_keptB (HO_858002.out) hkp (fun k_ hk_ hs_ => (hk_.2.1) hs_)) (fun k_ hk_ => ⟨hk_.1.1, hk_.1.2.1, hk_.1.2.2.1, hk_.1.2.2.2.1, hk_.1.2.2.2.2.1, hk_.1.2.2.2.2.2.1, hk_.1.2.2.2.2.2.2⟩)); have n6_ := Aside0.mk (Kd.R_mono (ok' := fun k_ => some k_ ≠ (.slice Ao37 t841.length co37 : Value).ownBlock ∧ some k_ ≠ (.slice Ao45 t851.length co45 : Value).ownBlock ∧ some k_ ≠ (.slice Ao103 t876.length co103 : Value).ownBlock) (Kd.R_keptB ((Kd.R_apart' HO_874001.out (Kd.R_typed HO_13.out) (by decide))) hkp (fun k_ hk_ hs_ => (hk_.2) hs_)) (fun k_ hk_ => ⟨hk_.1.1.1, hk_.1.1.2.1, hk_.1.1.2.2⟩)); have n7_ := Aside0.mk (Kd.R_mono (ok' := fun k_ => some k_ ≠ (.slice Ao50 t858.length co50 : Value).ownBlock ∧ some k_ ≠ (.slice Ao51 t861.length co51 : Value).ownBlock ∧ some k_ ≠ (.slice Ao38 t844.length co38 : Value).ownBlock ∧ some k_ ≠ (.slice Ao46 t854.length co46 : Value).ownBlock ∧ some k_ ≠ (.slice Ao104 t879.length co104 : Value).ownBlock ∧ some k_ ≠ (.slice Ao107 t883.length co107 : Value).ownBlock ∧ some k_ ≠ (.slice Ao109 t887.length co109 : Value).ownBlock) (Kd.R_keptB (HO_874002.out) hkp (fun k_ hk_ hs_ => (hk_.2.1) hs_)) (fun k_ hk_ => ⟨hk_.1.1, hk_.1.2.1, hk_.1.2.2.1, hk_.1.2.2.2.1, hk_.1.2.2.2.2.1, hk_.1.2.2.2.2.2.1, hk_.1.2.2.2.2.2.2⟩)); have n8_ := Aside0.mk (blk_kept BK825.out hkp (fun hs_ => (fun e_ => (Kd.R_ne HO_13.out BK825.out (by decide)) e_) hs_)); have n9_ := Aside0.mk (blk_kept BK849.out hkp (fun hs_ => (fun e_ => (Kd.R_ne HO_13.out BK849.out (by decide)) e_) hs_)); have n10_ := Aside0.mk (blk_kept BK857.out hkp (fun hs_ => (fun e_ => (Kd.R_ne HO_13.out BK857.out (by decide)) e_) hs_)); have n11_ := Aside0.mk (blk_kept BK873.out hkp (fun hs_ => (fun e_ => (Kd.R_ne HO_13.out BK873.out (by decide)) e_) hs_)); have n12_ := Aside0.mk (Kd.R_mono (ok' := fun k_ => some k_ ≠ (.slice Ao37 t841.length co37 : Value).ownBlock ∧ some k_ ≠ (.slice Ao45 t851.length co45 : Value).ownBlock ∧ some k_ ≠ (.slice Ao58 t865.length co58 : Value).ownBlock) (Kd.R_keptB ((Kd.R_apart' HO878.out (Kd.R_typed HO_13.out) (by decide))) hkp (fun k_ hk_ hs_ => (hk_.2) hs_)) (fun k_ hk_ => ⟨hk_.1.1.1, hk_.1.1.2.1, hk_.1.1.2.2⟩)); have n13_ := Aside0.mk (Kd.R_mono (ok' := fun k_ => some k_ ≠ (.slice Ao50 t858.length co50 : Value).ownBlock ∧ some k_ ≠ (.slice Ao51 t861.length co51 : Value).ownBlock ∧ some k_ ≠ (.slice Ao38 t844.length co38 : Value).ownBlock ∧ some k_ ≠ (.slice Ao46 t854.length co46 : Value).ownBlock ∧ some k_ ≠ (.slice Ao59 t868.length co59 : Value).ownBlock ∧ some k_ ≠ (.slice Ao107 t883.length co107 : Value).ownBlock ∧ some k_ ≠ (.slice Ao109 t887.length co109 : Value).ownBlock) (Kd.R_keptB (HO881.out) hkp (fun k_ hk_ hs_ => (hk_.2.1) hs_)) (fun k_ hk_ => ⟨hk_.1.1, hk_.1.2.1, hk_.1.2.2.1, hk_.1.2.2.2.1, hk_.1.2.2.2.2.1, hk_.1.2.2.2.2.2.1, hk_.1.2.2.2.2.2.2⟩)); have n14_ := Aside0.mk (Kd.R_mono (ok' := fun k_ => some k_ ≠ (.slice Ao50 t858.length co50 : Value).ownBlock ∧ some k_ ≠ (.slice Ao51 t861.length co51 : Value).ownBlock ∧ some k_ ≠ (.slice Ao38 t844.length co38 : Value).ownBlock ∧ some k_ ≠ (.slice Ao46 t854.length co46 : Value).ownBlock ∧ some k_ ≠ (.slice Ao59 t868.length co59 : Value).ownBlock ∧ some k_ ≠ (.slice Ao104 t879.length co104 : Value).ownBlock ∧ some k_ ≠ (.slice Ao109 t887.length co109 : Value).ownBlock) (Kd.R_keptB (HO885.out) hkp (fun k_ hk_ hs_ => (hk_.2.1) hs_)) (fun k_ hk_ => ⟨hk_.1.1, hk_.1.2.1, hk_.1.2.2.1, hk_.1.2.2.2.1, hk_.1.2.2.2.2.1, hk_.1.2.2.2.2.2.1, hk_.1.2.2.2.2.2.2⟩)); have n15_ := Aside0.mk (Kd.R_mono (ok' := fun k_ => some k_ ≠ (.slice Ao50 t858.length co50 : Value).ownBlock ∧ some k_ ≠ (.slice Ao51 t861.length co51 : Value).ownBlock ∧ some k_ ≠ (.slice Ao38 t844.length co38 : Value).ownBlock ∧ some k_ ≠ (.slice Ao46 t854.length co46 : Value).ownBlock ∧ some k_ ≠ (.slice Ao59 t868.length co59 : Value).ownBlock ∧ some k_ ≠ (.slice Ao104 t879.length co104 : Value).ownBlock ∧ some k_ ≠ (.slice Ao107 t883.length co107 : Value).ownBlock) (Kd.R_keptB (HO889.out) hkp (fun k_ hk_ hs_ => (hk_.2.1) hs_)) (fun k_ hk_ => ⟨hk_.1.1, hk_.1.2.1, hk_.1.2.2.1, hk_.1.2.2.2.1, hk_.1.2.2.2.2.1, hk_.1.2.2.2.2.2.1, hk_.1.2.2.2.2.2.2⟩)); have n16_ := Aside0.mk (hb); clear HO_12; clear HO_13; clear HO_850001; clear HO_850002; clear HO_858001; clear HO_858002; clear HO_874001; clear HO_874002; clear BK825; clear BK849; clear BK857; clear BK873; clear HO878; clear HO881; clear HO885; clear HO889; clear HB; have HO_12 := n0_; have HO_13 := n1_; have HO_850001 := n2_; have HO_850002 := n3_; have HO_858001 := n4_; have HO_858002 := n5_; have HO_874001 := n6_; have HO_874002 := n7_; have BK825 := n8_; have BK849 := n9_; have BK857 := n10_; have BK873 := n11_; have HO878 := n12_; have HO881 := n13_; have HO885 := n14_; have HO889 := n15_; have HB := n16_; clear n0_ n1_ n2_ n3_ n4_ n5_ n6_ n7_ n8_ n9_ n10_ n11_ n12_ n13_ n14_ n15_ n16_; (try clear hb); (try clear hkp); (try clear hy0)))
          (try simp only [Act.put, List.setIfInBounds_toArray, List.set_cons_zero, List.set_cons_succ])
          go_cut [114] (fun v114 wc => ∃ (kq : Nat) (x114_99 : Bool), v114 = .bool x114_99 ∧ Aside0 (laws_FnExactLessGates.j1 kq l1 l2 t847 t848 x114_99 a0_0 l0_1 l0_2 t840 t841 t844 t864 t865 t868 = some true) ∧ Aside0 (kq ≤ kj20) ∧ Aside0 (Kd.R k59 59 wc w.heap.size (fun k_ => some k_ ≠ ((.slice Ao45 t851.length co45) : Value).ownBlock ∧ some k_ ≠ ((.slice Ao58 t865.length co58) : Value).ownBlock) (.slice Ao37 t841.length co37) t841) ∧ Aside0 (Kd.R (Kd.int .i64) 3 wc w.heap.size (fun k_ => some k_ ≠ ((.slice Ao46 t854.length co46) : Value).ownBlock ∧ some k_ ≠ ((.slice Ao59 t868.length co59) : Value).ownBlock) (.slice Ao38 t844.length co38) t844) ∧ Aside0 (Kd.R k59 59 wc w.heap.size (fun k_ => some k_ ≠ ((.slice Ao37 t841.length co37) : Value).ownBlock ∧ some k_ ≠ ((.slice Ao58 t865.length co58) : Value).ownBlock) (.slice Ao45 t851.length co45) t892) ∧ Aside0 (Kd.R (Kd.int .i64) 3 wc w.heap.size (fun k_ => some k_ ≠ ((.slice Ao38 t844.length co38) : Value).ownBlock ∧ some k_ ≠ ((.slice Ao59 t868.length co59) : Value).ownBlock) (.slice Ao46 t854.length co46) t893) ∧ Aside0 (Kd.R k59 59 wc w.heap.size (fun k_ => some k_ ≠ ((.slice Ao37 t841.length co37) : Value).ownBlock ∧ some k_ ≠ ((.slice Ao45 t851.length co45) : Value).ownBlock) (.slice Ao58 t865.length co58) t865) ∧ Aside0 (Kd.R (Kd.int .i64) 3 wc w.heap.size (fun k_ => some k_ ≠ ((.slice Ao38 t844.length co38) : Value).ownBlock ∧ some k_ ≠ ((.slice Ao46 t854.length co46) : Value).ownBlock) (.slice Ao59 t868.length co59) t868) ∧ Aside0 (wc.heap[gb825]? = some (.cells #[.int .i64 a0_0, (.slice A0_1 l0_1.length c0_1), (.slice A0_2 l0_2.length c0_2)] 25 (0, 0))) ∧ Aside0 (wc.heap[gb849]? = some (.cells #[.int .i64 t840, (.slice Ao37 t841.length co37), (.slice Ao38 t844.length co38)] 30 (0, 0))) ∧ Aside0 (wc.heap[gb857]? = some (.cells #[.int .i64 t850, (.slice Ao45 t851.length co45), (.slice Ao46 t854.length co46)] 30 (0, 0))) ∧ Aside0 (wc.heap[gb873]? = some (.cells #[.int .i64 t864, (.slice Ao58 t865.length co58), (.slice Ao59 t868.length co59)] 30 (0, 0))) ∧ Aside0 (Below w.heap.size w wc))
          case first =>
           have H := HC100.out
           clear HC100
           by_cases c117 : t896 < 0
           ·rw [if_pos c117] at H
            exact absurd H (by cases kj20 <;> simp [laws_FnExactLessGates.j1])
           ·rw [if_neg c117] at H
            have c117b0 : decide (t896 < 0) = false := decide_eq_false c117
            clear c117
            (first | rw [c117b0] | (simp only [i64_w, i32_w]; rw [c117b0]) | skip)
            replace H := Option.bind_eq_some_iff.mp H
            obtain ⟨t898, A1180, H⟩ := H
            replace H : (if t898 = true then (if t871 = t847 then (laws_FnExactLessGates.j1 kj20 l1 l2 t847 t848 (t872 != t848) a0_0 l0_1 l0_2 t840 t841 t844 t864 t865 t868) else (laws_FnExactLessGates.j1 kj20 l1 l2 t847 t848 true a0_0 l0_1 l0_2 t840 t841 t844 t864 t865 t868)) else (laws_FnExactLessGates.j1 kj20 l1 l2 t847 t848 true a0_0 l0_1 l0_2 t840 t841 t844 t864 t865 t868)) = some true := H
            have A118 := Aside0.mk A1180
            clear A1180
            by_cases c119 : t898 = true
            ·subst c119
             have H1 : (if t871 = t847 then (laws_FnExactLessGates.j1 kj20 l1 l2 t847 t848 (t872 != t848) a0_0 l0_1 l0_2 t840 t841 t844 t864 t865 t868) else (laws_FnExactLessGates.j1 kj20 l1 l2 t847 t848 true a0_0 l0_1 l0_2 t840 t841 t844 t864 t865 t868)) = some true := by rw [if_pos rfl] at H; exact H
             clear H
             have H := H1
             clear H1
             by_cases c120 : t871 = t847
             ·rw [if_pos c120] at H
              have c120b0 : (t871 == t847) = true := beq_iff_eq.mpr c120
              have c120b1 : (t871 != t847) = false := bne_eq_false_iff_eq.mpr c120
              clear c120
              have H' := Aside0.mk H
              clear H
              have hnb121 := NB873_825.out
              have hnc121 := NB825_873.out
              have hnb122 := NB873_849.out
              have hnc122 := NB849_873.out
              have hnb123 := NB873_857.out
              have hnc123 := NB857_873.out
              have hcz124_0 : w116.cell? ⟨gb873, 0, none⟩ = some (.int .i64 t864) := (blk_cell BK873.out 0).trans rfl
              have hcz124_1 : w116.cell? ⟨gb873, 1, none⟩ = some (.slice Ao58 t865.length co58) := (blk_cell BK873.out 1).trans rfl
              have hcz124_2 : w116.cell? ⟨gb873, 2, none⟩ = some (.slice Ao59 t868.length co59) := (blk_cell BK873.out 2).trans rfl
              have hfz124_0 := blk_frozen BK873.out 0
              have hfz124_1 := blk_frozen BK873.out 1
              have hfz124_2 := blk_frozen BK873.out 2
              have hnb125 := NB849_825.out
              have hnc125 := NB825_849.out
              have hnb126 := NB849_857.out
              have hnc126 := NB857_849.out
              have hcz127_0 : w116.cell? ⟨gb849, 0, none⟩ = some (.int .i64 t840) := (blk_cell BK849.out 0).trans rfl
              have hcz127_1 : w116.cell? ⟨gb849, 1, none⟩ = some (.slice Ao37 t841.length co37) := (blk_cell BK849.out 1).trans rfl
              have hcz127_2 : w116.cell? ⟨gb849, 2, none⟩ = some (.slice Ao38 t844.length co38) := (blk_cell BK849.out 2).trans rfl
              have hfz127_0 := blk_frozen BK849.out 0
              have hfz127_1 := blk_frozen BK849.out 1
              have hfz127_2 := blk_frozen BK849.out 2
              go_wp2_with (first | (go_at_call 15; (with_reducible refine (laws_eqCircuit.calls kj20 t864 _ _ t865 _ _ t868 t840 _ _ t841 _ _ t844 true _ ?side1 ?side2 ?side3 ?side4 ?side5 ?side6 ?side7 ?side8 A118.out).mono ?_); (case side1 => repeat (first | exact (Kd.R_reads' HO_874001.out).2.2 | (with_reducible refine Kd.C_alloc ?_ _) | (with_reducible refine Kd.C_drewN ?_ _) | (with_reducible refine Kd.C_drew ?_))); (case side2 => exact (Kd.R_reads' HO_874001.out).2.1); (case side3 => repeat (first | exact (Kd.R_reads' HO_874002.out).2.2 | (with_reducible refine Kd.C_alloc ?_ _) | (with_reducible refine Kd.C_drewN ?_ _) | (with_reducible refine Kd.C_drew ?_))); (case side4 => exact (Kd.R_reads' HO_874002.out).2.1); (case side5 => repeat (first | exact (Kd.R_reads' HO_850001.out).2.2 | (with_reducible refine Kd.C_alloc ?_ _) | (with_reducible refine Kd.C_drewN ?_ _) | (with_reducible refine Kd.C_drew ?_))); (case side6 => exact (Kd.R_reads' HO_850001.out).2.1); (case side7 => repeat (first | exact (Kd.R_reads' HO_850002.out).2.2 | (with_reducible refine Kd.C_alloc ?_ _) | (with_reducible refine Kd.C_drewN ?_ _) | (with_reducible refine Kd.C_drew ?_))); (case side8 => exact (Kd.R_reads' HO_850002.out).2.1); rintro e w128 ⟨rfl, hb⟩; have n0_ := Aside0.mk (Kd.R_below (qR HO_12.out) hb); have n1_ := Aside0.mk (Kd.R_below (qR HO_13.out) hb); have n2_ := Aside0.mk (Kd.R_below (qR HO_850001.out) hb); have n3_ := Aside0.mk (Kd.R_below (qR HO_850002.out) hb); have n4_ := Aside0.mk (Kd.R_below (qR HO_858001.out) hb); have n5_ := Aside0.mk (Kd.R_below (qR HO_858002.out) hb); have n6_ := Aside0.mk (Kd.R_below (qR HO_874001.out) hb); have n7_ := Aside0.mk (Kd.R_below (qR HO_874002.out) hb); have n8_ := Aside0.mk (Kd.R_below (qR HO878.out) hb); have n9_ := Aside0.mk (Kd.R_below (qR HO881.out) hb); have n10_ := Aside0.mk (Kd.R_below (qR HO885.out) hb); have n11_ := Aside0.mk (Kd.R_below (qR HO889.out) hb); have n12_ := Aside0.mk (blk_below (g := gb825) (o := .cells #[.int .i64 a0_0, .slice A0_1 l0_1.length c0_1, .slice A0_2 l0_2.length c0_2] 25 (0, 0)) (qK BK825.out) hb); have n13_ := Aside0.mk (blk_below (g := gb849) (o := .cells #[.int .i64 t840, .slice Ao37 t841.length co37, .slice Ao38 t844.length co38] 30 (0, 0)) (qK BK849.out) hb); have n14_ := Aside0.mk (blk_below (g := gb857) (o := .cells #[.int .i64 t850, .slice Ao45 t851.length co45, .slice Ao46 t854.length co46] 30 (0, 0)) (qK BK857.out) hb); have n15_ := Aside0.mk (blk_below (g := gb873) (o := .cells #[.int .i64 t864, .slice Ao58 t865.length co58, .slice Ao59 t868.length co59] 30 (0, 0)) (qK BK873.out) hb); have n16_ := Aside0.mk (below_step (qB) hb); clear HO_12; clear HO_13; clear HO_850001; clear HO_850002; clear HO_858001; clear HO_858002; clear HO_874001; clear HO_874002; clear HO878; clear HO881; clear HO885; clear HO889; clear BK825; clear BK849; clear BK857; clear BK873; clear HB; have HO_12 := n0_; have HO_13 := n1_; have HO_850001 := n2_; have HO_850002 := n3_; have HO_858001 := n4_; have HO_858002 := n5_; have HO_874001 := n6_; have HO_874002 := n7_; have HO878 := n8_; have HO881 := n9_; have HO885 := n10_; have HO889 := n11_; have BK825 := n12_; have BK849 := n13_; have BK857 := n14_; have BK873 := n15_; have HB := n16_; clear n0_ n1_ n2_ n3_ n4_ n5_ n6_ n7_ n8_ n9_ n10_ n11_ n12_ n13_ n14_ n15_ n16_; (try clear hb); (try clear hb2); (try clear hk); (try clear hi)))
              go_meet
              case rel => exact ⟨_, ((t872 != t848)), qS, H', ⟨by have := HJ20.out; first | omega | exact Nat.le_refl _⟩, ⟨by (with_reducible repeat (first | apply Kd.R_alloc | apply Kd.R_drewN | apply Kd.R_drew)); exact Kd.R_mono HO_850001.out (fun _ hk => ⟨hk.1, hk.2.1⟩)⟩, ⟨by (with_reducible repeat (first | apply Kd.R_alloc | apply Kd.R_drewN | apply Kd.R_drew)); exact Kd.R_mono HO_850002.out (fun _ hk => ⟨hk.2.2.1, hk.2.2.2.1⟩)⟩, ⟨by (with_reducible repeat (first | apply Kd.R_alloc | apply Kd.R_drewN | apply Kd.R_drew)); exact Kd.R_mono HO_858001.out (fun _ hk => ⟨hk.1, hk.2.1⟩)⟩, ⟨by (with_reducible repeat (first | apply Kd.R_alloc | apply Kd.R_drewN | apply Kd.R_drew)); exact Kd.R_mono HO_858002.out (fun _ hk => ⟨hk.2.2.1, hk.2.2.2.1⟩)⟩, ⟨by (with_reducible repeat (first | apply Kd.R_alloc | apply Kd.R_drewN | apply Kd.R_drew)); exact Kd.R_mono HO_874001.out (fun _ hk => ⟨hk.1, hk.2.1⟩)⟩, ⟨by (with_reducible repeat (first | apply Kd.R_alloc | apply Kd.R_drewN | apply Kd.R_drew)); exact Kd.R_mono HO_874002.out (fun _ hk => ⟨hk.2.2.1, hk.2.2.2.1⟩)⟩, ⟨by exact qK BK825.out⟩, ⟨by exact qK BK849.out⟩, ⟨by exact qK BK857.out⟩, ⟨by exact qK BK873.out⟩, ⟨qB⟩⟩
             ·rw [if_neg c120] at H
              exact absurd H (by cases kj20 <;> simp [laws_FnExactLessGates.j1])
            ·replace c119 := Bool.eq_false_iff.mpr c119
             subst c119
             have H1 : (laws_FnExactLessGates.j1 kj20 l1 l2 t847 t848 true a0_0 l0_1 l0_2 t840 t841 t844 t864 t865 t868) = some true := by rw [if_neg (show ¬ (false = true) by decide)] at H; exact H
             exact absurd H1 (by cases kj20 <;> simp [laws_FnExactLessGates.j1])
          case rest =>
           clear HC100
           try clear c1
           try clear c2
           try clear p2
           try clear c3
           try clear c4
           try clear c4b0
           try clear c4b1
           try clear c5
           try clear c6
           try clear c6b0
           try clear c6b1
           try clear c7
           try clear c8
           try clear c9
           try clear c9b0
           try clear c11
           try clear c12
           try clear c13
           try clear c14
           try clear c15
           try clear c20
           try clear c27
           try clear c28
           try clear c34
           try clear c35
           try clear c36
           try clear c37
           try clear c42
           try clear c43
           try clear c54
           try clear c55
           try clear c56
           try clear c61
           try clear c62
           try clear c62b0
           try clear c62b1
           try clear c63
           try clear c64
           try clear c65
           try clear c67
           try clear c68
           try clear c71
           try clear c72
           try clear c73
           try clear c75
           try clear c76
           try clear c79
           try clear c80
           try clear c81
           try clear c83
           try clear c84
           try clear c87
           try clear c90
           try clear c93
           try clear c96
           try clear c110
           try clear c111
           try clear c112
           try clear c117
           try clear c117b0
           try clear c119
           try clear c120
           try clear c120b0
           try clear c120b1
           try clear c121
           try clear c122
           try clear c123
           try clear c125
           try clear c126
           try clear c129
           try clear c130
           try clear c131
           try clear c133
           try clear c134
           try clear c137
           try clear c138
           try clear c139
           try clear c141
           try clear c142
           try clear hcz113_0
           try clear hcz113_1
           try clear hcz113_2
           try clear hcz11_0
           try clear hcz11_1
           try clear hcz11_2
           try clear hcz124_0
           try clear hcz124_1
           try clear hcz124_2
           try clear hcz127_0
           try clear hcz127_1
           try clear hcz127_2
           try clear hcz132_0
           try clear hcz132_1
           try clear hcz132_2
           try clear hcz135_0
           try clear hcz135_1
           try clear hcz135_2
           try clear hcz140_0
           try clear hcz140_1
           try clear hcz140_2
           try clear hcz143_0
           try clear hcz143_1
           try clear hcz143_2
           try clear hcz23_0
           try clear hcz23_1
           try clear hcz23_2
           try clear hcz25_0
           try clear hcz25_1
           try clear hcz25_2
           try clear hcz36_0
           try clear hcz36_1
           try clear hcz36_2
           try clear hcz39_0
           try clear hcz39_1
           try clear hcz39_2
           try clear hcz44_0
           try clear hcz44_1
           try clear hcz44_2
           try clear hcz49_0
           try clear hcz49_1
           try clear hcz49_2
           try clear hcz57_0
           try clear hcz57_1
           try clear hcz57_2
           try clear hcz66_0
           try clear hcz66_1
           try clear hcz66_2
           try clear hcz69_0
           try clear hcz69_1
           try clear hcz69_2
           try clear hcz74_0
           try clear hcz74_1
           try clear hcz74_2
           try clear hcz77_0
           try clear hcz77_1
           try clear hcz77_2
           try clear hcz82_0
           try clear hcz82_1
           try clear hcz82_2
           try clear hcz85_0
           try clear hcz85_1
           try clear hcz85_2
           try clear hfz113_0
           try clear hfz113_1
           try clear hfz113_2
           try clear hfz11_0
           try clear hfz11_1
           try clear hfz11_2
           try clear hfz124_0
           try clear hfz124_1
           try clear hfz124_2
           try clear hfz127_0
           try clear hfz127_1
           try clear hfz127_2
           try clear hfz132_0
           try clear hfz132_1
           try clear hfz132_2
           try clear hfz135_0
           try clear hfz135_1
           try clear hfz135_2
           try clear hfz140_0
           try clear hfz140_1
           try clear hfz140_2
           try clear hfz143_0
           try clear hfz143_1
           try clear hfz143_2
           try clear hfz23_0
           try clear hfz23_1
           try clear hfz23_2
           try clear hfz25_0
           try clear hfz25_1
           try clear hfz25_2
           try clear hfz36_0
           try clear hfz36_1
           try clear hfz36_2
           try clear hfz39_0
           try clear hfz39_1
           try clear hfz39_2
           try clear hfz44_0
           try clear hfz44_1
           try clear hfz44_2
           try clear hfz49_0
           try clear hfz49_1
           try clear hfz49_2
           try clear hfz57_0
           try clear hfz57_1
           try clear hfz57_2
           try clear hfz66_0
           try clear hfz66_1
           try clear hfz66_2
           try clear hfz69_0
           try clear hfz69_1
           try clear hfz69_2
           try clear hfz74_0
           try clear hfz74_1
           try clear hfz74_2
           try clear hfz77_0
           try clear hfz77_1
           try clear hfz77_2
           try clear hfz82_0
           try clear hfz82_1
           try clear hfz82_2
           try clear hfz85_0
           try clear hfz85_1
           try clear hfz85_2
           try clear p2
           obtain ⟨kq, x114_99, rfl, HA, HJ99, HO_850001, HO_850002, HO_858001, HO_858002, HO_874001, HO_874002, BK825, BK849, BK857, BK873, HB⟩ := hcut
           have hl858001_99 := (Kd.R_reads' HO_858001.out).1
           rw [hl858001_99] at HO_858001
           (try simp only [hl858001_99])
           (try simp only [hl858001_99] at BK825)
           (try simp only [hl858001_99] at BK849)
           (try simp only [hl858001_99] at BK857)
           (try simp only [hl858001_99] at BK873)
           (try simp only [hl858001_99] at HO_850001)
           (try simp only [hl858001_99] at HO_850002)
           (try simp only [hl858001_99] at HO_858002)
           (try simp only [hl858001_99] at HO_874001)
           (try simp only [hl858001_99] at HO_874002)
           have hl858002_99 := (Kd.R_reads' HO_858002.out).1
           rw [hl858002_99] at HO_858002
           (try simp only [hl858002_99])
           (try simp only [hl858002_99] at BK825)
           (try simp only [hl858002_99] at BK849)
           (try simp only [hl858002_99] at BK857)
           (try simp only [hl858002_99] at BK873)
           (try simp only [hl858002_99] at HO_850001)
           (try simp only [hl858002_99] at HO_850002)
           (try simp only [hl858002_99] at HO_858001)
           (try simp only [hl858002_99] at HO_874001)
           (try simp only [hl858002_99] at HO_874002)
           cases kq with
           | zero => exact absurd HA.out (by simp [laws_FnExactLessGates.j1])
           | succ kj99 =>
            have H := HA.out
            clear HA
            simp only [laws_FnExactLessGates.j1] at H
            by_cases c145 : x114_99 = true
            ·subst c145
             have H1 : (some false) = some true := by rw [if_pos rfl] at H; exact H
             exact absurd H1 (by simp)
            ·replace c145 := Bool.eq_false_iff.mpr c145
             subst c145
             have H1 : ((laws_markCircuit.f kj99 t864 t865 t868 1).bind fun bt899 => ((laws_heldCircuit.f kj99 t864 bt899.2.1 bt899.2.2 1).bind fun t902 => (if t902 < 0 then (some false) else (if t902 = bt899.1 then ((laws_toCircuit.f kj99 a0_0 l0_1 l0_2).bind fun bt903 => ((laws_toIntS.f kj99 l1).bind fun t910 => ((laws_toIntS.f kj99 l2).bind fun t913 => ((impl_LessGates.f kj99 bt903.1 bt903.2.1 bt903.2.2 t910 t913).bind fun bt916 => ((laws_eqCircuit.f kj99 bt916.1 bt916.2.1 bt916.2.2.1 t840 t841 t844).bind fun t926 => (if t926 = true then (if bt916.2.2.2.1 = t847 then (laws_FnExactLessGates.j2 kj99 bt899.1 (bt916.2.2.2.2 != t848) t864 bt899.2.1 bt899.2.2) else (laws_FnExactLessGates.j2 kj99 bt899.1 true t864 bt899.2.1 bt899.2.2)) else (laws_FnExactLessGates.j2 kj99 bt899.1 true t864 bt899.2.1 bt899.2.2))))))) else (some false))))) = some true := by rw [if_neg (show ¬ (false = true) by decide)] at H; exact H
             clear H
             have H := H1
             clear H1
             replace H := Option.bind_eq_some_iff.mp H
             obtain ⟨⟨t899, t900, t901⟩, A1460, H⟩ := H
             replace H : ((laws_heldCircuit.f kj99 t864 t900 t901 1).bind fun t902 => (if t902 < 0 then (some false) else (if t902 = t899 then ((laws_toCircuit.f kj99 a0_0 l0_1 l0_2).bind fun bt903 => ((laws_toIntS.f kj99 l1).bind fun t910 => ((laws_toIntS.f kj99 l2).bind fun t913 => ((impl_LessGates.f kj99 bt903.1 bt903.2.1 bt903.2.2 t910 t913).bind fun bt916 => ((laws_eqCircuit.f kj99 bt916.1 bt916.2.1 bt916.2.2.1 t840 t841 t844).bind fun t926 => (if t926 = true then (if bt916.2.2.2.1 = t847 then (laws_FnExactLessGates.j2 kj99 t899 (bt916.2.2.2.2 != t848) t864 t900 t901) else (laws_FnExactLessGates.j2 kj99 t899 true t864 t900 t901)) else (laws_FnExactLessGates.j2 kj99 t899 true t864 t900 t901))))))) else (some false)))) = some true := H
             have A146 := Aside0.mk A1460
             clear A1460
             replace H := Option.bind_eq_some_iff.mp H
             obtain ⟨t902, A1470, H⟩ := H
             replace H : (if t902 < 0 then (some false) else (if t902 = t899 then ((laws_toCircuit.f kj99 a0_0 l0_1 l0_2).bind fun bt903 => ((laws_toIntS.f kj99 l1).bind fun t910 => ((laws_toIntS.f kj99 l2).bind fun t913 => ((impl_LessGates.f kj99 bt903.1 bt903.2.1 bt903.2.2 t910 t913).bind fun bt916 => ((laws_eqCircuit.f kj99 bt916.1 bt916.2.1 bt916.2.2.1 t840 t841 t844).bind fun t926 => (if t926 = true then (if bt916.2.2.2.1 = t847 then (laws_FnExactLessGates.j2 kj99 t899 (bt916.2.2.2.2 != t848) t864 t900 t901) else (laws_FnExactLessGates.j2 kj99 t899 true t864 t900 t901)) else (laws_FnExactLessGates.j2 kj99 t899 true t864 t900 t901))))))) else (some false))) = some true := H
             have A147 := Aside0.mk A1470
             clear A1470
             by_cases c148 : t902 < 0
             ·rw [if_pos c148] at H
              exact absurd H (by simp)
             ·rw [if_neg c148] at H
              have c148b0 : decide (t902 < 0) = false := decide_eq_false c148
              clear c148
              by_cases c156 : t902 = t899
              ·rw [if_pos c156] at H
               have c156b0 : (t902 == t899) = true := beq_iff_eq.mpr c156
               have c156b1 : (t902 != t899) = false := bne_eq_false_iff_eq.mpr c156
               clear c156
               replace H := Option.bind_eq_some_iff.mp H
               obtain ⟨⟨t903, t904, t907⟩, A1570, H⟩ := H
               replace H : ((laws_toIntS.f kj99 l1).bind fun t910 => ((laws_toIntS.f kj99 l2).bind fun t913 => ((impl_LessGates.f kj99 t903 t904 t907 t910 t913).bind fun bt916 => ((laws_eqCircuit.f kj99 bt916.1 bt916.2.1 bt916.2.2.1 t840 t841 t844).bind fun t926 => (if t926 = true then (if bt916.2.2.2.1 = t847 then (laws_FnExactLessGates.j2 kj99 t899 (bt916.2.2.2.2 != t848) t864 t900 t901) else (laws_FnExactLessGates.j2 kj99 t899 true t864 t900 t901)) else (laws_FnExactLessGates.j2 kj99 t899 true t864 t900 t901)))))) = some true := H
               have A157 := Aside0.mk A1570
               clear A1570
               replace H := Option.bind_eq_some_iff.mp H
               obtain ⟨t910, A1580, H⟩ := H
               replace H : ((laws_toIntS.f kj99 l2).bind fun t913 => ((impl_LessGates.f kj99 t903 t904 t907 t910 t913).bind fun bt916 => ((laws_eqCircuit.f kj99 bt916.1 bt916.2.1 bt916.2.2.1 t840 t841 t844).bind fun t926 => (if t926 = true then (if bt916.2.2.2.1 = t847 then (laws_FnExactLessGates.j2 kj99 t899 (bt916.2.2.2.2 != t848) t864 t900 t901) else (laws_FnExactLessGates.j2 kj99 t899 true t864 t900 t901)) else (laws_FnExactLessGates.j2 kj99 t899 true t864 t900 t901))))) = some true := H
               have A158 := Aside0.mk A1580
               clear A1580
               replace H := Option.bind_eq_some_iff.mp H
               obtain ⟨t913, A1590, H⟩ := H
               replace H : ((impl_LessGates.f kj99 t903 t904 t907 t910 t913).bind fun bt916 => ((laws_eqCircuit.f kj99 bt916.1 bt916.2.1 bt916.2.2.1 t840 t841 t844).bind fun t926 => (if t926 = true then (if bt916.2.2.2.1 = t847 then (laws_FnExactLessGates.j2 kj99 t899 (bt916.2.2.2.2 != t848) t864 t900 t901) else (laws_FnExactLessGates.j2 kj99 t899 true t864 t900 t901)) else (laws_FnExactLessGates.j2 kj99 t899 true t864 t900 t901)))) = some true := H
               have A159 := Aside0.mk A1590
               clear A1590
               replace H := Option.bind_eq_some_iff.mp H
               obtain ⟨⟨t916, t917, t920, t923, t924⟩, A1600, H⟩ := H
               replace H : ((laws_eqCircuit.f kj99 t916 t917 t920 t840 t841 t844).bind fun t926 => (if t926 = true then (if t923 = t847 then (laws_FnExactLessGates.j2 kj99 t899 (t924 != t848) t864 t900 t901) else (laws_FnExactLessGates.j2 kj99 t899 true t864 t900 t901)) else (laws_FnExactLessGates.j2 kj99 t899 true t864 t900 t901))) = some true := H
               have A160 := Aside0.mk A1600
               clear A1600
               have HC161 := Aside0.mk H
               clear H
               have hnb162 := NB873_825.out
               have hnc162 := NB825_873.out
               have hnb163 := NB873_849.out
               have hnc163 := NB849_873.out
               have hnb164 := NB873_857.out
               have hnc164 := NB857_873.out
               have hcz165_0 : wc.cell? ⟨gb873, 0, none⟩ = some (.int .i64 t864) := (blk_cell BK873.out 0).trans rfl
               have hcz165_1 : wc.cell? ⟨gb873, 1, none⟩ = some (.slice Ao58 t865.length co58) := (blk_cell BK873.out 1).trans rfl
               have hcz165_2 : wc.cell? ⟨gb873, 2, none⟩ = some (.slice Ao59 t868.length co59) := (blk_cell BK873.out 2).trans rfl
               have hfz165_0 := blk_frozen BK873.out 0
               have hfz165_1 := blk_frozen BK873.out 1
               have hfz165_2 := blk_frozen BK873.out 2
               go_upto_region 37 with (first | ((with_reducible refine gate_callee (f := 20) rfl ?_); refine goesL_ (some 117) rfl rfl Try.func20 (by kernel_rfl) rfl #[.agg #[.int .i64 t864, .slice Ao58 t865.length co58, .slice Ao59 t868.length co59], .int .i64 1] rfl qG ?_; (with_reducible refine (laws_markCircuit.calls kj99 t864 (fun k_ => some k_ = (.slice Ao58 t865.length co58 : Value).ownBlock) (.slice Ao58 t865.length co58) t865 (fun k_ => some k_ = (.slice Ao59 t868.length co59 : Value).ownBlock) (.slice Ao59 t868.length co59) t868 1 t899 t900 t901 w _ ?side1 ?side2 ?side3 A146.out).mono ?_); (case side1 => repeat (first | (with_reducible first | exact HB.out | apply below_alloc | apply pw_below_drewN | apply below_drew1 | refine below_set ?_ GE825.out | refine below_set ?_ GE849.out | refine below_set ?_ GE857.out | refine below_set ?_ GE873.out) | exact HB.out)); (case side2 => exact Kd.R_tight rfl HO_874001.out); (case side3 => exact Kd.R_tight rfl HO_874002.out); rintro e w166 ⟨rfl, hy0, hy1, hb, hkp⟩; refine ⟨_, rfl, ?_⟩; have n0_ := Aside0.mk (Kd.R_mono (ok' := fun k_ => some k_ ≠ (.slice Ao45 t892.length co45 : Value).ownBlock ∧ some k_ ≠ (.slice Ao58 t865.length co58 : Value).ownBlock) (Kd.R_keptB ((Kd.R_apart' HO_850001.out (Kd.R_typed HO_874002.out) (by decide))) hkp (fun k_ hk_ hs_ => Or.elim hs_ (fun e_ => (hk_.1.2) e_) (fun e_ => (hk_.2) e_))) (fun k_ hk_ => ⟨hk_.1.1.1, hk_.1.1.2⟩)); have n1_ := Aside0.mk (Kd.R_mono (ok' := fun k_ => some k_ ≠ (.slice Ao46 t893.length co46 : Value).ownBlock ∧ some k_ ≠ (.slice Ao59 t868.length co59 : Value).ownBlock) (Kd.R_keptB ((Kd.R_apart' HO_850002.out (Kd.R_typed HO_874001.out) (by decide))) hkp (fun k_ hk_ hs_ => Or.elim hs_ (fun e_ => (hk_.2) e_) (fun e_ => (hk_.1.2) e_))) (fun k_ hk_ => ⟨hk_.1.1.1, hk_.1.1.2⟩)); have n2_ := Aside0.mk (Kd.R_mono (ok' := fun k_ => some k_ ≠ (.slice Ao37 t841.length co37 : Value).ownBlock ∧ some k_ ≠ (.slice Ao58 t865.length co58 : Value).ownBlock) (Kd.R_keptB ((Kd.R_apart' HO_858001.out (Kd.R_typed HO_874002.out) (by decide))) hkp (fun k_ hk_ hs_ => Or.elim hs_ (fun e_ => (hk_.1.2) e_) (fun e_ => (hk_.2) e_))) (fun k_ hk_ => ⟨hk_.1.1.1, hk_.1.1.2⟩)); have n3_ := Aside0.mk (Kd.R_mono (ok' := fun k_ => some k_ ≠ (.slice Ao38 t844.length co38 : Value).ownBlock ∧ some k_ ≠ (.slice Ao59 t868.length co59 : Value).ownBlock) (Kd.R_keptB ((Kd.R_apart' HO_858002.out (Kd.R_typed HO_874001.out) (by decide))) hkp (fun k_ hk_ hs_ => Or.elim hs_ (fun e_ => (hk_.2) e_) (fun e_ => (hk_.1.2) e_))) (fun k_ hk_ => ⟨hk_.1.1.1, hk_.1.1.2⟩)); have n4_ := Aside0.mk (Kd.R_reok rfl hy0 (fun k_ e_ => HO_874001.out.1 k_ e_)); have n5_ := Aside0.mk (Kd.R_reok rfl hy1 (fun k_ e_ => HO_874002.out.1 k_ e_)); have n6_ := Aside0.mk (blk_kept BK825.out hkp (fun hs_ => Or.elim hs_ (fun e_ => (fun e_ => (Kd.R_ne HO_874001.out BK825.out (by decide)) e_) e_) (fun e_ => (fun e_ => (Kd.R_ne HO_874002.out BK825.out (by decide)) e_) e_))); have n7_ := Aside0.mk (blk_kept BK849.out hkp (fun hs_ => Or.elim hs_ (fun e_ => (fun e_ => (Kd.R_ne HO_874001.out BK849.out (by decide)) e_) e_) (fun e_ => (fun e_ => (Kd.R_ne HO_874002.out BK849.out (by decide)) e_) e_))); have n8_ := Aside0.mk (blk_kept BK857.out hkp (fun hs_ => Or.elim hs_ (fun e_ => (fun e_ => (Kd.R_ne HO_874001.out BK857.out (by decide)) e_) e_) (fun e_ => (fun e_ => (Kd.R_ne HO_874002.out BK857.out (by decide)) e_) e_))); have n9_ := Aside0.mk (blk_kept BK873.out hkp (fun hs_ => Or.elim hs_ (fun e_ => (fun e_ => (Kd.R_ne HO_874001.out BK873.out (by decide)) e_) e_) (fun e_ => (fun e_ => (Kd.R_ne HO_874002.out BK873.out (by decide)) e_) e_))); have n10_ := Aside0.mk (hb); clear HO_850001; clear HO_850002; clear HO_858001; clear HO_858002; clear HO_874001; clear HO_874002; clear BK825; clear BK849; clear BK857; clear BK873; clear HB; have HO_850001 := n0_; have HO_850002 := n1_; have HO_858001 := n2_; have HO_858002 := n3_; have HO_874001 := n4_; have HO_874002 := n5_; have BK825 := n6_; have BK849 := n7_; have BK857 := n8_; have BK873 := n9_; have HB := n10_; clear n0_ n1_ n2_ n3_ n4_ n5_ n6_ n7_ n8_ n9_ n10_; (try clear hb); (try clear hkp); (try clear hy0); (try clear hy1); have hcz167_0 : w166.cell? ⟨gb873, 0, none⟩ = some (.int .i64 t864) := (blk_cell BK873.out 0).trans rfl; have hcz167_1 : w166.cell? ⟨gb873, 1, none⟩ = some (.slice Ao58 t865.length co58) := (blk_cell BK873.out 1).trans rfl; have hcz167_2 : w166.cell? ⟨gb873, 2, none⟩ = some (.slice Ao59 t868.length co59) := (blk_cell BK873.out 2).trans rfl; have hfz167_0 := blk_frozen BK873.out 0; have hfz167_1 := blk_frozen BK873.out 1; have hfz167_2 := blk_frozen BK873.out 2) | ((with_reducible refine gate_callee (f := 32) rfl ?_); refine goesL_ (some 120) rfl rfl Try.func32 (by kernel_rfl) rfl #[.agg #[.int .i64 t864, .slice Ao58 t900.length co58, .slice Ao59 t901.length co59], .int .i64 1] rfl (by (try simp only [List.map_toArray, List.map_cons, List.map_nil]); first | done | (rw [show t900.length = t865.length from (Kd.R_reads' HO_874001.out).1.symm, show t901.length = t868.length from (Kd.R_reads' HO_874002.out).1.symm] <;> rfl) | rfl | (simp only [List.length_drop, List.length_take]; rfl)) ?_; (with_reducible refine (laws_heldCircuit.calls kj99 t864 _ _ t900 _ _ t901 1 t902 _ ?side1 ?side2 ?side3 ?side4 A147.out).mono ?_); (case side1 => repeat (first | exact (Kd.R_reads' HO_874001.out).2.2 | (with_reducible refine Kd.C_alloc ?_ _) | (with_reducible refine Kd.C_drewN ?_ _) | (with_reducible refine Kd.C_drew ?_))); (case side2 => rw [show t900.length = t865.length from (Kd.R_reads' HO_874001.out).1.symm]; exact (Kd.R_reads' HO_874001.out).2.1); (case side3 => repeat (first | exact (Kd.R_reads' HO_874002.out).2.2 | (with_reducible refine Kd.C_alloc ?_ _) | (with_reducible refine Kd.C_drewN ?_ _) | (with_reducible refine Kd.C_drew ?_))); (case side4 => rw [show t901.length = t868.length from (Kd.R_reads' HO_874002.out).1.symm]; exact (Kd.R_reads' HO_874002.out).2.1); rintro e w168 ⟨rfl, hb⟩; refine ⟨_, rfl, ?_⟩; have n0_ := Aside0.mk (Kd.R_below (qR HO_850001.out) hb); have n1_ := Aside0.mk (Kd.R_below (qR HO_850002.out) hb); have n2_ := Aside0.mk (Kd.R_below (qR HO_858001.out) hb); have n3_ := Aside0.mk (Kd.R_below (qR HO_858002.out) hb); have n4_ := Aside0.mk (Kd.R_below (qR HO_874001.out) hb); have n5_ := Aside0.mk (Kd.R_below (qR HO_874002.out) hb); have n6_ := Aside0.mk (blk_below (g := gb825) (o := .cells #[.int .i64 a0_0, .slice A0_1 l0_1.length c0_1, .slice A0_2 l0_2.length c0_2] 25 (0, 0)) (qK BK825.out) hb); have n7_ := Aside0.mk (blk_below (g := gb849) (o := .cells #[.int .i64 t840, .slice Ao37 t841.length co37, .slice Ao38 t844.length co38] 30 (0, 0)) (qK BK849.out) hb); have n8_ := Aside0.mk (blk_below (g := gb857) (o := .cells #[.int .i64 t850, .slice Ao45 t892.length co45, .slice Ao46 t893.length co46] 30 (0, 0)) (qK BK857.out) hb); have n9_ := Aside0.mk (blk_below (g := gb873) (o := .cells #[.int .i64 t864, .slice Ao58 t865.length co58, .slice Ao59 t868.length co59] 30 (0, 0)) (qK BK873.out) hb); have n10_ := Aside0.mk (below_step (qB) hb); clear HO_850001; clear HO_850002; clear HO_858001; clear HO_858002; clear HO_874001; clear HO_874002; clear BK825; clear BK849; clear BK857; clear BK873; clear HB; have HO_850001 := n0_; have HO_850002 := n1_; have HO_858001 := n2_; have HO_858002 := n3_; have HO_874001 := n4_; have HO_874002 := n5_; have BK825 := n6_; have BK849 := n7_; have BK857 := n8_; have BK873 := n9_; have HB := n10_; clear n0_ n1_ n2_ n3_ n4_ n5_ n6_ n7_ n8_ n9_ n10_; (try clear hb); (try clear hb2); (try clear hk); (try clear hi); have hnb169 := NB825_849.out; have hnc169 := NB849_825.out; have hnb170 := NB825_857.out; have hnc170 := NB857_825.out; have hcz171_0 : w168.cell? ⟨gb825, 0, none⟩ = some (.int .i64 a0_0) := (blk_cell BK825.out 0).trans rfl; have hcz171_1 : w168.cell? ⟨gb825, 1, none⟩ = some (.slice A0_1 l0_1.length c0_1) := (blk_cell BK825.out 1).trans rfl; have hcz171_2 : w168.cell? ⟨gb825, 2, none⟩ = some (.slice A0_2 l0_2.length c0_2) := (blk_cell BK825.out 2).trans rfl; have hfz171_0 := blk_frozen BK825.out 0; have hfz171_1 := blk_frozen BK825.out 1; have hfz171_2 := blk_frozen BK825.out 2) | ((with_reducible refine gate_callee (f := 13) rfl ?_); refine goesL_ (some 128) rfl rfl Try.func13 (by kernel_rfl) rfl #[.agg #[.int .i64 a0_0, .slice A0_1 l0_1.length c0_1, .slice A0_2 l0_2.length c0_2]] rfl qG ?_; (with_reducible refine (laws_toCircuit.calls kj99 a0_0 _ _ l0_1 _ _ l0_2 t903 t904 t907 _ ?side1 ?side2 ?side3 ?side4 A157.out).mono ?_); (case side1 => exact qC (Kd.C_below HR0_1.out HB.out)); (case side2 => exact HC0_1.out); (case side3 => exact qC (Kd.C_below HR0_2.out HB.out)); (case side4 => exact HC0_2.out); rintro e w172 ⟨v905, v908, rfl, ho0, ho1, hb⟩; refine ⟨_, rfl, ?_⟩; have n0_ := Aside0.mk (Kd.R_elder' (qR HO_850001.out) (Kd.R_base ho0) hb); have n1_ := Aside0.mk (Kd.R_elder' (qR HO_850002.out) (Kd.R_base ho1) hb); have n2_ := Aside0.mk (Kd.R_elder' (qR HO_858001.out) (Kd.R_base ho0) hb); have n3_ := Aside0.mk (Kd.R_elder' (qR HO_858002.out) (Kd.R_base ho1) hb); have n4_ := Aside0.mk (Kd.R_elder' (qR HO_874001.out) (Kd.R_base ho0) hb); have n5_ := Aside0.mk (Kd.R_elder' (qR HO_874002.out) (Kd.R_base ho1) hb); have n6_ := Aside0.mk (Kd.R_lower (Kd.R_new' (Kd.R_new' (Kd.R_new' ho0 (Kd.R_lt (qR HO_850001.out))) (Kd.R_lt (qR HO_858001.out))) (Kd.R_lt (qR HO_874001.out))) (below_size (qB))); have n7_ := Aside0.mk (Kd.R_lower (Kd.R_new' (Kd.R_new' (Kd.R_new' ho1 (Kd.R_lt (qR HO_850002.out))) (Kd.R_lt (qR HO_858002.out))) (Kd.R_lt (qR HO_874002.out))) (below_size (qB))); have n8_ := Aside0.mk (blk_below (g := gb825) (o := .cells #[.int .i64 a0_0, .slice A0_1 l0_1.length c0_1, .slice A0_2 l0_2.length c0_2] 25 (0, 0)) (qK BK825.out) hb); have n9_ := Aside0.mk (blk_below (g := gb849) (o := .cells #[.int .i64 t840, .slice Ao37 t841.length co37, .slice Ao38 t844.length co38] 30 (0, 0)) (qK BK849.out) hb); have n10_ := Aside0.mk (blk_below (g := gb857) (o := .cells #[.int .i64 t850, .slice Ao45 t892.length co45, .slice Ao46 t893.length co46] 30 (0, 0)) (qK BK857.out) hb); have n11_ := Aside0.mk (blk_below (g := gb873) (o := .cells #[.int .i64 t864, .slice Ao58 t865.length co58, .slice Ao59 t868.length co59] 30 (0, 0)) (qK BK873.out) hb); have n12_ := Aside0.mk (below_step (qB) hb); clear HO_850001; clear HO_850002; clear HO_858001; clear HO_858002; clear HO_874001; clear HO_874002; clear BK825; clear BK849; clear BK857; clear BK873; clear HB; have HO_850001 := n0_; have HO_850002 := n1_; have HO_858001 := n2_; have HO_858002 := n3_; have HO_874001 := n4_; have HO_874002 := n5_; have HO906 := n6_; have HO909 := n7_; have BK825 := n8_; have BK849 := n9_; have BK857 := n10_; have BK873 := n11_; have HB := n12_; clear n0_ n1_ n2_ n3_ n4_ n5_ n6_ n7_ n8_ n9_ n10_ n11_ n12_; (try clear hb); (try clear hb2); (try clear hk); (try clear hi); (try clear ho0); (try clear ho1)) | ((with_reducible refine gate_callee (f := 34) rfl ?_); refine goesL_ (some 130) rfl rfl Try.func34 (by kernel_rfl) rfl #[.slice A1 l1.length c1] rfl qG ?_; (with_reducible refine (laws_toIntS.calls kj99 _ _ l1 t910 _ ?side1 ?side2 A158.out).mono ?_); (case side1 => exact qC (Kd.C_below HR1.out HB.out)); (case side2 => exact HC1.out); rintro e w173 ⟨v911, rfl, ho0, hb⟩; refine ⟨_, rfl, ?_⟩; have n0_ := Aside0.mk (Kd.R_below (qR HO_850001.out) hb); have n1_ := Aside0.mk (Kd.R_elder' (qR HO_850002.out) (Kd.R_base ho0) hb); have n2_ := Aside0.mk (Kd.R_below (qR HO_858001.out) hb); have n3_ := Aside0.mk (Kd.R_elder' (qR HO_858002.out) (Kd.R_base ho0) hb); have n4_ := Aside0.mk (Kd.R_below (qR HO_874001.out) hb); have n5_ := Aside0.mk (Kd.R_elder' (qR HO_874002.out) (Kd.R_base ho0) hb); have n6_ := Aside0.mk (Kd.R_below (qR HO906.out) hb); have n7_ := Aside0.mk (Kd.R_elder' (qR HO909.out) (Kd.R_base ho0) hb); have n8_ := Aside0.mk (Kd.R_lower (Kd.R_new' (Kd.R_new' (Kd.R_new' (Kd.R_new' ho0 (Kd.R_lt (qR HO_850002.out))) (Kd.R_lt (qR HO_858002.out))) (Kd.R_lt (qR HO_874002.out))) (Kd.R_lt (qR HO909.out))) (below_size (qB))); have n9_ := Aside0.mk (blk_below (g := gb825) (o := .cells #[.int .i64 a0_0, .slice A0_1 l0_1.length c0_1, .slice A0_2 l0_2.length c0_2] 25 (0, 0)) (qK BK825.out) hb); have n10_ := Aside0.mk (blk_below (g := gb849) (o := .cells #[.int .i64 t840, .slice Ao37 t841.length co37, .slice Ao38 t844.length co38] 30 (0, 0)) (qK BK849.out) hb); have n11_ := Aside0.mk (blk_below (g := gb857) (o := .cells #[.int .i64 t850, .slice Ao45 t892.length co45, .slice Ao46 t893.length co46] 30 (0, 0)) (qK BK857.out) hb); have n12_ := Aside0.mk (blk_below (g := gb873) (o := .cells #[.int .i64 t864, .slice Ao58 t865.length co58, .slice Ao59 t868.length co59] 30 (0, 0)) (qK BK873.out) hb); have n13_ := Aside0.mk (below_step (qB) hb); clear HO_850001; clear HO_850002; clear HO_858001; clear HO_858002; clear HO_874001; clear HO_874002; clear HO906; clear HO909; clear BK825; clear BK849; clear BK857; clear BK873; clear HB; have HO_850001 := n0_; have HO_850002 := n1_; have HO_858001 := n2_; have HO_858002 := n3_; have HO_874001 := n4_; have HO_874002 := n5_; have HO906 := n6_; have HO909 := n7_; have HO912 := n8_; have BK825 := n9_; have BK849 := n10_; have BK857 := n11_; have BK873 := n12_; have HB := n13_; clear n0_ n1_ n2_ n3_ n4_ n5_ n6_ n7_ n8_ n9_ n10_ n11_ n12_ n13_; (try clear hb); (try clear hb2); (try clear hk); (try clear hi); (try clear ho0)) | ((with_reducible refine gate_callee (f := 34) rfl ?_); refine goesL_ (some 132) rfl rfl Try.func34 (by kernel_rfl) rfl #[.slice A2 l2.length c2] rfl qG ?_; (with_reducible refine (laws_toIntS.calls kj99 _ _ l2 t913 _ ?side1 ?side2 A159.out).mono ?_); (case side1 => exact qC (Kd.C_below HR2.out HB.out)); (case side2 => exact HC2.out); rintro e w174 ⟨v914, rfl, ho0, hb⟩; refine ⟨_, rfl, ?_⟩; have n0_ := Aside0.mk (Kd.R_below (qR HO_850001.out) hb); have n1_ := Aside0.mk (Kd.R_elder' (qR HO_850002.out) (Kd.R_base ho0) hb); have n2_ := Aside0.mk (Kd.R_below (qR HO_858001.out) hb); have n3_ := Aside0.mk (Kd.R_elder' (qR HO_858002.out) (Kd.R_base ho0) hb); have n4_ := Aside0.mk (Kd.R_below (qR HO_874001.out) hb); have n5_ := Aside0.mk (Kd.R_elder' (qR HO_874002.out) (Kd.R_base ho0) hb); have n6_ := Aside0.mk (Kd.R_below (qR HO906.out) hb); have n7_ := Aside0.mk (Kd.R_elder' (qR HO909.out) (Kd.R_base ho0) hb); have n8_ := Aside0.mk (Kd.R_elder' (qR HO912.out) (Kd.R_base ho0) hb); have n9_ := Aside0.mk (Kd.R_lower (Kd.R_new' (Kd.R_new' (Kd.R_new' (Kd.R_new' (Kd.R_new' ho0 (Kd.R_lt (qR HO_850002.out))) (Kd.R_lt (qR HO_858002.out))) (Kd.R_lt (qR HO_874002.out))) (Kd.R_lt (qR HO909.out))) (Kd.R_lt (qR HO912.out))) (below_size (qB))); have n10_ := Aside0.mk (blk_below (g := gb825) (o := .cells #[.int .i64 a0_0, .slice A0_1 l0_1.length c0_1, .slice A0_2 l0_2.length c0_2] 25 (0, 0)) (qK BK825.out) hb); have n11_ := Aside0.mk (blk_below (g := gb849) (o := .cells #[.int .i64 t840, .slice Ao37 t841.length co37, .slice Ao38 t844.length co38] 30 (0, 0)) (qK BK849.out) hb); have n12_ := Aside0.mk (blk_below (g := gb857) (o := .cells #[.int .i64 t850, .slice Ao45 t892.length co45, .slice Ao46 t893.length co46] 30 (0, 0)) (qK BK857.out) hb); have n13_ := Aside0.mk (blk_below (g := gb873) (o := .cells #[.int .i64 t864, .slice Ao58 t865.length co58, .slice Ao59 t868.length co59] 30 (0, 0)) (qK BK873.out) hb); have n14_ := Aside0.mk (below_step (qB) hb); clear HO_850001; clear HO_850002; clear HO_858001; clear HO_858002; clear HO_874001; clear HO_874002; clear HO906; clear HO909; clear HO912; clear BK825; clear BK849; clear BK857; clear BK873; clear HB; have HO_850001 := n0_; have HO_850002 := n1_; have HO_858001 := n2_; have HO_858002 := n3_; have HO_874001 := n4_; have HO_874002 := n5_; have HO906 := n6_; have HO909 := n7_; have HO912 := n8_; have HO915 := n9_; have BK825 := n10_; have BK849 := n11_; have BK857 := n12_; have BK873 := n13_; have HB := n14_; clear n0_ n1_ n2_ n3_ n4_ n5_ n6_ n7_ n8_ n9_ n10_ n11_ n12_ n13_ n14_; (try clear hb); (try clear hb2); (try clear hk); (try clear hi); (try clear ho0); obtain ⟨Ao175, co175, eo175⟩ := Kd.R_slice HO906.out; subst eo175; obtain ⟨Ao176, co176, eo176⟩ := Kd.R_slice HO909.out; subst eo176; obtain ⟨Ao177, co177, eo177⟩ := Kd.R_slice HO912.out; subst eo177; obtain ⟨Ao178, co178, eo178⟩ := Kd.R_slice HO915.out; subst eo178) | ((with_reducible refine gate_callee (f := 37) rfl ?_); refine goesL_ (some 133) rfl rfl Try.func37 (by kernel_rfl) rfl #[.agg #[.int .i64 t903, .slice Ao175 t904.length co175, .slice Ao176 t907.length co176], .slice Ao177 t910.length co177, .slice Ao178 t913.length co178] rfl qG ?_; (with_reducible refine (impl_LessGates.calls kj99 t903 _ _ t904 _ _ t907 _ _ t910 _ _ t913 t916 t917 t920 t923 t924 _ ?side1 ?side2 ?side3 ?side4 ?side5 ?side6 ?side7 ?side8 A160.out).mono ?_); (case side1 => repeat (first | exact (Kd.R_reads' HO906.out).2.2 | (with_reducible refine Kd.C_alloc ?_ _) | (with_reducible refine Kd.C_drewN ?_ _) | (with_reducible refine Kd.C_drew ?_))); (case side2 => exact (Kd.R_reads' HO906.out).2.1); (case side3 => repeat (first | exact (Kd.R_reads' HO909.out).2.2 | (with_reducible refine Kd.C_alloc ?_ _) | (with_reducible refine Kd.C_drewN ?_ _) | (with_reducible refine Kd.C_drew ?_))); (case side4 => exact (Kd.R_reads' HO909.out).2.1); (case side5 => repeat (first | exact (Kd.R_reads' HO912.out).2.2 | (with_reducible refine Kd.C_alloc ?_ _) | (with_reducible refine Kd.C_drewN ?_ _) | (with_reducible refine Kd.C_drew ?_))); (case side6 => exact (Kd.R_reads' HO912.out).2.1); (case side7 => repeat (first | exact (Kd.R_reads' HO915.out).2.2 | (with_reducible refine Kd.C_alloc ?_ _) | (with_reducible refine Kd.C_drewN ?_ _) | (with_reducible refine Kd.C_drew ?_))); (case side8 => exact (Kd.R_reads' HO915.out).2.1); rintro e w179 ⟨v918, v921, rfl, ho0, ho1, hb⟩; refine ⟨_, rfl, ?_⟩; have n0_ := Aside0.mk (Kd.R_elder' (qR HO_850001.out) (Kd.R_base ho0) hb); have n1_ := Aside0.mk (Kd.R_elder' (qR HO_850002.out) (Kd.R_base ho1) hb); have n2_ := Aside0.mk (Kd.R_elder' (qR HO_858001.out) (Kd.R_base ho0) hb); have n3_ := Aside0.mk (Kd.R_elder' (qR HO_858002.out) (Kd.R_base ho1) hb); have n4_ := Aside0.mk (Kd.R_elder' (qR HO_874001.out) (Kd.R_base ho0) hb); have n5_ := Aside0.mk (Kd.R_elder' (qR HO_874002.out) (Kd.R_base ho1) hb); have n6_ := Aside0.mk (Kd.R_elder' (qR HO906.out) (Kd.R_base ho0) hb); have n7_ := Aside0.mk (Kd.R_elder' (qR HO909.out) (Kd.R_base ho1) hb); have n8_ := Aside0.mk (Kd.R_elder' (qR HO912.out) (Kd.R_base ho1) hb); have n9_ := Aside0.mk (Kd.R_elder' (qR HO915.out) (Kd.R_base ho1) hb); have n10_ := Aside0.mk (Kd.R_lower (Kd.R_new' (Kd.R_new' (Kd.R_new' (Kd.R_new' ho0 (Kd.R_lt (qR HO_850001.out))) (Kd.R_lt (qR HO_858001.out))) (Kd.R_lt (qR HO_874001.out))) (Kd.R_lt (qR HO906.out))) (below_size (qB))); have n11_ := Aside0.mk (Kd.R_lower (Kd.R_new' (Kd.R_new' (Kd.R_new' (Kd.R_new' (Kd.R_new' (Kd.R_new' ho1 (Kd.R_lt (qR HO_850002.out))) (Kd.R_lt (qR HO_858002.out))) (Kd.R_lt (qR HO_874002.out))) (Kd.R_lt (qR HO909.out))) (Kd.R_lt (qR HO912.out))) (Kd.R_lt (qR HO915.out))) (below_size (qB))); have n12_ := Aside0.mk (blk_below (g := gb825) (o := .cells #[.int .i64 a0_0, .slice A0_1 l0_1.length c0_1, .slice A0_2 l0_2.length c0_2] 25 (0, 0)) (qK BK825.out) hb); have n13_ := Aside0.mk (blk_below (g := gb849) (o := .cells #[.int .i64 t840, .slice Ao37 t841.length co37, .slice Ao38 t844.length co38] 30 (0, 0)) (qK BK849.out) hb); have n14_ := Aside0.mk (blk_below (g := gb857) (o := .cells #[.int .i64 t850, .slice Ao45 t892.length co45, .slice Ao46 t893.length co46] 30 (0, 0)) (qK BK857.out) hb); have n15_ := Aside0.mk (blk_below (g := gb873) (o := .cells #[.int .i64 t864, .slice Ao58 t865.length co58, .slice Ao59 t868.length co59] 30 (0, 0)) (qK BK873.out) hb); have n16_ := Aside0.mk (below_step (qB) hb); clear HO_850001; clear HO_850002; clear HO_858001; clear HO_858002; clear HO_874001; clear HO_874002; clear HO906; clear HO909; clear HO912; clear HO915; clear BK825; clear BK849; clear BK857; clear BK873; clear HB; have HO_850001 := n0_; have HO_850002 := n1_; have HO_858001 := n2_; have HO_858002 := n3_; have HO_874001 := n4_; have HO_874002 := n5_; have HO906 := n6_; have HO909 := n7_; have HO912 := n8_; have HO915 := n9_; have HO919 := n10_; have HO922 := n11_; have BK825 := n12_; have BK849 := n13_; have BK857 := n14_; have BK873 := n15_; have HB := n16_; clear n0_ n1_ n2_ n3_ n4_ n5_ n6_ n7_ n8_ n9_ n10_ n11_ n12_ n13_ n14_ n15_ n16_; (try clear hb); (try clear hb2); (try clear hk); (try clear hi); (try clear ho0); (try clear ho1)) | ((with_reducible refine gate_dst (N := 20) rfl ?_); refine box_event ?hg (N := 20) ?hd (cs := #[.int .i64 0, .slice none 0 0, .slice none 0 0]) (t := 30) ?hr ?_; (case hd => rfl); (case hg => rfl); (case hr => first | (go_simp; done) | (go_simp; rfl)); intro gb925 hg w180 hbox hb; have n0_ := Aside0.mk (Kd.R_below (qR HO_850001.out) hb); have n1_ := Aside0.mk (Kd.R_below (qR HO_850002.out) hb); have n2_ := Aside0.mk (Kd.R_below (qR HO_858001.out) hb); have n3_ := Aside0.mk (Kd.R_below (qR HO_858002.out) hb); have n4_ := Aside0.mk (Kd.R_below (qR HO_874001.out) hb); have n5_ := Aside0.mk (Kd.R_below (qR HO_874002.out) hb); have n6_ := Aside0.mk (Kd.R_below (qR HO906.out) hb); have n7_ := Aside0.mk (Kd.R_below (qR HO909.out) hb); have n8_ := Aside0.mk (Kd.R_below (qR HO912.out) hb); have n9_ := Aside0.mk (Kd.R_below (qR HO915.out) hb); have n10_ := Aside0.mk (Kd.R_below (qR HO919.out) hb); have n11_ := Aside0.mk (Kd.R_below (qR HO922.out) hb); have n12_ := Aside0.mk (blk_below (g := gb825) (o := .cells #[.int .i64 a0_0, .slice A0_1 l0_1.length c0_1, .slice A0_2 l0_2.length c0_2] 25 (0, 0)) (qK BK825.out) hb); have n13_ := Aside0.mk (blk_below (g := gb849) (o := .cells #[.int .i64 t840, .slice Ao37 t841.length co37, .slice Ao38 t844.length co38] 30 (0, 0)) (qK BK849.out) hb); have n14_ := Aside0.mk (blk_below (g := gb857) (o := .cells #[.int .i64 t850, .slice Ao45 t892.length co45, .slice Ao46 t893.length co46] 30 (0, 0)) (qK BK857.out) hb); have n15_ := Aside0.mk (blk_below (g := gb873) (o := .cells #[.int .i64 t864, .slice Ao58 t865.length co58, .slice Ao59 t868.length co59] 30 (0, 0)) (qK BK873.out) hb); have n16_ := Aside0.mk (below_step (qB) hb); have n17_ := Aside0.mk (hbox); have n18_ := Aside0.mk ((by rw [hg]; exact (below_size (qB)) : w.heap.size ≤ gb925)); have n19_ := Aside0.mk ((by rw [hg]; exact (below_size (qB)) : w.heap.size ≤ gb925)); have n20_ := Aside0.mk ((by rw [hg]; exact Nat.ne_of_lt (blk_lt (g := gb825) (o := .cells #[.int .i64 a0_0, .slice A0_1 l0_1.length c0_1, .slice A0_2 l0_2.length c0_2] 25 (0, 0)) (qK BK825.out)) : gb825 ≠ gb925)); have n21_ := Aside0.mk ((by rw [hg]; exact Nat.ne_of_gt (blk_lt (g := gb825) (o := .cells #[.int .i64 a0_0, .slice A0_1 l0_1.length c0_1, .slice A0_2 l0_2.length c0_2] 25 (0, 0)) (qK BK825.out)) : gb925 ≠ gb825)); have n22_ := Aside0.mk ((by rw [hg]; exact Nat.ne_of_lt (blk_lt (g := gb849) (o := .cells #[.int .i64 t840, .slice Ao37 t841.length co37, .slice Ao38 t844.length co38] 30 (0, 0)) (qK BK849.out)) : gb849 ≠ gb925)); have n23_ := Aside0.mk ((by rw [hg]; exact Nat.ne_of_gt (blk_lt (g := gb849) (o := .cells #[.int .i64 t840, .slice Ao37 t841.length co37, .slice Ao38 t844.length co38] 30 (0, 0)) (qK BK849.out)) : gb925 ≠ gb849)); have n24_ := Aside0.mk ((by rw [hg]; exact Nat.ne_of_lt (blk_lt (g := gb857) (o := .cells #[.int .i64 t850, .slice Ao45 t892.length co45, .slice Ao46 t893.length co46] 30 (0, 0)) (qK BK857.out)) : gb857 ≠ gb925)); have n25_ := Aside0.mk ((by rw [hg]; exact Nat.ne_of_gt (blk_lt (g := gb857) (o := .cells #[.int .i64 t850, .slice Ao45 t892.length co45, .slice Ao46 t893.length co46] 30 (0, 0)) (qK BK857.out)) : gb925 ≠ gb857)); have n26_ := Aside0.mk ((by rw [hg]; exact Nat.ne_of_lt (blk_lt (g := gb873) (o := .cells #[.int .i64 t864, .slice Ao58 t865.length co58, .slice Ao59 t868.length co59] 30 (0, 0)) (qK BK873.out)) : gb873 ≠ gb925)); have n27_ := Aside0.mk ((by rw [hg]; exact Nat.ne_of_gt (blk_lt (g := gb873) (o := .cells #[.int .i64 t864, .slice Ao58 t865.length co58, .slice Ao59 t868.length co59] 30 (0, 0)) (qK BK873.out)) : gb925 ≠ gb873)); clear HO_850001; clear HO_850002; clear HO_858001; clear HO_858002; clear HO_874001; clear HO_874002; clear HO906; clear HO909; clear HO912; clear HO915; clear HO919; clear HO922; clear BK825; clear BK849; clear BK857; clear BK873; clear HB; have HO_850001 := n0_; have HO_850002 := n1_; have HO_858001 := n2_; have HO_858002 := n3_; have HO_874001 := n4_; have HO_874002 := n5_; have HO906 := n6_; have HO909 := n7_; have HO912 := n8_; have HO915 := n9_; have HO919 := n10_; have HO922 := n11_; have BK825 := n12_; have BK849 := n13_; have BK857 := n14_; have BK873 := n15_; have HB := n16_; have BK925 := n17_; have GW925 := n18_; have GE925 := n19_; have NB825_925 := n20_; have NB925_825 := n21_; have NB849_925 := n22_; have NB925_849 := n23_; have NB857_925 := n24_; have NB925_857 := n25_; have NB873_925 := n26_; have NB925_873 := n27_; clear n0_ n1_ n2_ n3_ n4_ n5_ n6_ n7_ n8_ n9_ n10_ n11_ n12_ n13_ n14_ n15_ n16_ n17_ n18_ n19_ n20_ n21_ n22_ n23_ n24_ n25_ n26_ n27_; clear hb hbox hg; have hnb181 := NB925_825.out; have hnc181 := NB825_925.out; have hnb182 := NB925_849.out; have hnc182 := NB849_925.out; have hnb183 := NB925_857.out; have hnc183 := NB857_925.out; have hnb184 := NB925_873.out; have hnc184 := NB873_925.out; have hcz185_0 : w180.cell? ⟨gb925, 0, none⟩ = some (.int .i64 0) := (blk_cell BK925.out 0).trans rfl; have hcz185_1 : w180.cell? ⟨gb925, 1, none⟩ = some (.slice none 0 0) := (blk_cell BK925.out 1).trans rfl; have hcz185_2 : w180.cell? ⟨gb925, 2, none⟩ = some (.slice none 0 0) := (blk_cell BK925.out 2).trans rfl; have hfz185_0 := blk_frozen BK925.out 0; have hfz185_1 := blk_frozen BK925.out 1; have hfz185_2 := blk_frozen BK925.out 2; obtain ⟨Ao186, co186, eo186⟩ := Kd.R_slice HO919.out; subst eo186; obtain ⟨Ao187, co187, eo187⟩ := Kd.R_slice HO922.out; subst eo187))
               (try simp only [Act.put, List.setIfInBounds_toArray, List.set_cons_zero, List.set_cons_succ])
               go_cut [150] (fun v150 wc => ∃ (kq : Nat) (x150_160 : Bool), v150 = .bool x150_160 ∧ Aside0 (laws_FnExactLessGates.j2 kq t899 x150_160 t864 t900 t901 = some true) ∧ Aside0 (kq ≤ kj99) ∧ Aside0 (Kd.R k59 59 wc w.heap.size (fun k_ => some k_ ≠ ((.slice Ao45 t892.length co45) : Value).ownBlock ∧ some k_ ≠ ((.slice Ao58 t865.length co58) : Value).ownBlock ∧ some k_ ≠ ((.slice Ao186 t917.length co186) : Value).ownBlock) (.slice Ao37 t841.length co37) t841) ∧ Aside0 (Kd.R (Kd.int .i64) 3 wc w.heap.size (fun k_ => some k_ ≠ ((.slice Ao46 t893.length co46) : Value).ownBlock ∧ some k_ ≠ ((.slice Ao59 t868.length co59) : Value).ownBlock ∧ some k_ ≠ ((.slice Ao187 t920.length co187) : Value).ownBlock) (.slice Ao38 t844.length co38) t844) ∧ Aside0 (Kd.R k59 59 wc w.heap.size (fun k_ => some k_ ≠ ((.slice Ao37 t841.length co37) : Value).ownBlock ∧ some k_ ≠ ((.slice Ao58 t865.length co58) : Value).ownBlock ∧ some k_ ≠ ((.slice Ao186 t917.length co186) : Value).ownBlock) (.slice Ao45 t892.length co45) t892) ∧ Aside0 (Kd.R (Kd.int .i64) 3 wc w.heap.size (fun k_ => some k_ ≠ ((.slice Ao38 t844.length co38) : Value).ownBlock ∧ some k_ ≠ ((.slice Ao59 t868.length co59) : Value).ownBlock ∧ some k_ ≠ ((.slice Ao187 t920.length co187) : Value).ownBlock) (.slice Ao46 t893.length co46) t893) ∧ Aside0 (Kd.R k59 59 wc w.heap.size (fun k_ => some k_ ≠ ((.slice Ao37 t841.length co37) : Value).ownBlock ∧ some k_ ≠ ((.slice Ao45 t892.length co45) : Value).ownBlock ∧ some k_ ≠ ((.slice Ao186 t917.length co186) : Value).ownBlock) (.slice Ao58 t865.length co58) t900) ∧ Aside0 (Kd.R (Kd.int .i64) 3 wc w.heap.size (fun k_ => some k_ ≠ ((.slice Ao38 t844.length co38) : Value).ownBlock ∧ some k_ ≠ ((.slice Ao46 t893.length co46) : Value).ownBlock ∧ some k_ ≠ ((.slice Ao187 t920.length co187) : Value).ownBlock) (.slice Ao59 t868.length co59) t901) ∧ Aside0 (Kd.R k59 59 wc w.heap.size (fun k_ => some k_ ≠ ((.slice Ao37 t841.length co37) : Value).ownBlock ∧ some k_ ≠ ((.slice Ao45 t892.length co45) : Value).ownBlock ∧ some k_ ≠ ((.slice Ao58 t865.length co58) : Value).ownBlock) (.slice Ao186 t917.length co186) t917) ∧ Aside0 (Kd.R (Kd.int .i64) 3 wc w.heap.size (fun k_ => some k_ ≠ ((.slice Ao38 t844.length co38) : Value).ownBlock ∧ some k_ ≠ ((.slice Ao46 t893.length co46) : Value).ownBlock ∧ some k_ ≠ ((.slice Ao59 t868.length co59) : Value).ownBlock) (.slice Ao187 t920.length co187) t920) ∧ Aside0 (wc.heap[gb825]? = some (.cells #[.int .i64 a0_0, (.slice A0_1 l0_1.length c0_1), (.slice A0_2 l0_2.length c0_2)] 25 (0, 0))) ∧ Aside0 (wc.heap[gb849]? = some (.cells #[.int .i64 t840, (.slice Ao37 t841.length co37), (.slice Ao38 t844.length co38)] 30 (0, 0))) ∧ Aside0 (wc.heap[gb857]? = some (.cells #[.int .i64 t850, (.slice Ao45 t892.length co45), (.slice Ao46 t893.length co46)] 30 (0, 0))) ∧ Aside0 (wc.heap[gb873]? = some (.cells #[.int .i64 t864, (.slice Ao58 t865.length co58), (.slice Ao59 t868.length co59)] 30 (0, 0))) ∧ Aside0 (wc.heap[gb925]? = some (.cells #[.int .i64 t916, (.slice Ao186 t917.length co186), (.slice Ao187 t920.length co187)] 30 (0, 0))) ∧ Aside0 (Below w.heap.size w wc))
               case first =>
                have H := HC161.out
                clear HC161
                replace H := Option.bind_eq_some_iff.mp H
                obtain ⟨t926, A1880, H⟩ := H
                replace H : (if t926 = true then (if t923 = t847 then (laws_FnExactLessGates.j2 kj99 t899 (t924 != t848) t864 t900 t901) else (laws_FnExactLessGates.j2 kj99 t899 true t864 t900 t901)) else (laws_FnExactLessGates.j2 kj99 t899 true t864 t900 t901)) = some true := H
                have A188 := Aside0.mk A1880
                clear A1880
                by_cases c189 : t926 = true
                ·subst c189
                 have H1 : (if t923 = t847 then (laws_FnExactLessGates.j2 kj99 t899 (t924 != t848) t864 t900 t901) else (laws_FnExactLessGates.j2 kj99 t899 true t864 t900 t901)) = some true := by rw [if_pos rfl] at H; exact H
                 clear H
                 have H := H1
                 clear H1
                 by_cases c190 : t923 = t847
                 ·rw [if_pos c190] at H
                  have c190b0 : (t923 == t847) = true := beq_iff_eq.mpr c190
                  have c190b1 : (t923 != t847) = false := bne_eq_false_iff_eq.mpr c190
                  clear c190
                  (first | rw [c190b0] | (simp only [i64_w, i32_w]; rw [c190b0]) | skip)
                  have H' := Aside0.mk H
                  clear H
                  have hnb191 := NB925_825.out
                  have hnc191 := NB825_925.out
                  have hnb192 := NB925_849.out
                  have hnc192 := NB849_925.out
                  have hnb193 := NB925_857.out
                  have hnc193 := NB857_925.out
                  have hnb194 := NB925_873.out
                  have hnc194 := NB873_925.out
                  have hcz195_0 : w180.cell? ⟨gb925, 0, none⟩ = some (.int .i64 0) := (blk_cell BK925.out 0).trans rfl
                  have hcz195_1 : w180.cell? ⟨gb925, 1, none⟩ = some (.slice none 0 0) := (blk_cell BK925.out 1).trans rfl
                  have hcz195_2 : w180.cell? ⟨gb925, 2, none⟩ = some (.slice none 0 0) := (blk_cell BK925.out 2).trans rfl
                  have hfz195_0 := blk_frozen BK925.out 0
                  have hfz195_1 := blk_frozen BK925.out 1
                  have hfz195_2 := blk_frozen BK925.out 2
                  have hnb196 := NB849_825.out
                  have hnc196 := NB825_849.out
                  have hnb197 := NB849_857.out
                  have hnc197 := NB857_849.out
                  have hnb198 := NB849_873.out
                  have hnc198 := NB873_849.out
                  have hcz199_0 : w180.cell? ⟨gb849, 0, none⟩ = some (.int .i64 t840) := (blk_cell BK849.out 0).trans rfl
                  have hcz199_1 : w180.cell? ⟨gb849, 1, none⟩ = some (.slice Ao37 t841.length co37) := (blk_cell BK849.out 1).trans rfl
                  have hcz199_2 : w180.cell? ⟨gb849, 2, none⟩ = some (.slice Ao38 t844.length co38) := (blk_cell BK849.out 2).trans rfl
                  have hfz199_0 := blk_frozen BK849.out 0
                  have hfz199_1 := blk_frozen BK849.out 1
                  have hfz199_2 := blk_frozen BK849.out 2
                  go_wp2_with (first | ((with_reducible refine gate_callee (f := 15) rfl ?_); refine goesL_ (some 139) rfl rfl Try.func15 (by kernel_rfl) rfl #[.agg #[.int .i64 t916, .slice Ao186 t917.length co186, .slice Ao187 t920.length co187], .agg #[.int .i64 t840, .slice Ao37 t841.length co37, .slice Ao38 t844.length co38]] rfl qG ?_; (with_reducible refine (laws_eqCircuit.calls kj99 t916 _ _ t917 _ _ t920 t840 _ _ t841 _ _ t844 true _ ?side1 ?side2 ?side3 ?side4 ?side5 ?side6 ?side7 ?side8 A188.out).mono ?_); (case side1 => refine (Kd.R_reads' (e := 59) (base := w.heap.size) (ok := fun k_ => ((((True ∧ some k_ ≠ (.slice Ao37 t841.length co37 : Value).ownBlock) ∧ some k_ ≠ (.slice Ao45 t892.length co45 : Value).ownBlock) ∧ some k_ ≠ (.slice Ao58 t865.length co58 : Value).ownBlock) ∧ some k_ ≠ (.slice Ao175 t904.length co175 : Value).ownBlock)) (n := t917.length) (c := co186) ?_).2.2; exact (by (with_reducible repeat (first | apply Kd.R_alloc | apply Kd.R_drewN | apply Kd.R_drew)); exact (Kd.R_mono (Kd.R_far (p := ⟨gb925, 2, none⟩) (Kd.R_far (p := ⟨gb925, 1, none⟩) (Kd.R_far (p := ⟨gb925, 0, none⟩) (Kd.R_types HO919.out BK925.out (by decide)) (fun _ hk => hk.2) (.int .i64 t916)) (fun _ hk => hk.2) (.slice Ao186 t917.length co186)) (fun _ hk => hk.2) (.slice Ao187 t920.length co187)) (fun _ h_ => h_.1)))); (case side2 => exact (Kd.R_reads' HO919.out).2.1); (case side3 => refine (Kd.R_reads' (e := 3) (base := w.heap.size) (ok := fun k_ => ((((((True ∧ some k_ ≠ (.slice Ao38 t844.length co38 : Value).ownBlock) ∧ some k_ ≠ (.slice Ao46 t893.length co46 : Value).ownBlock) ∧ some k_ ≠ (.slice Ao59 t868.length co59 : Value).ownBlock) ∧ some k_ ≠ (.slice Ao176 t907.length co176 : Value).ownBlock) ∧ some k_ ≠ (.slice Ao177 t910.length co177 : Value).ownBlock) ∧ some k_ ≠ (.slice Ao178 t913.length co178 : Value).ownBlock)) (n := t920.length) (c := co187) ?_).2.2; exact (by (with_reducible repeat (first | apply Kd.R_alloc | apply Kd.R_drewN | apply Kd.R_drew)); exact (Kd.R_mono (Kd.R_far (p := ⟨gb925, 2, none⟩) (Kd.R_far (p := ⟨gb925, 1, none⟩) (Kd.R_far (p := ⟨gb925, 0, none⟩) (Kd.R_types HO922.out BK925.out (by decide)) (fun _ hk => hk.2) (.int .i64 t916)) (fun _ hk => hk.2) (.slice Ao186 t917.length co186)) (fun _ hk => hk.2) (.slice Ao187 t920.length co187)) (fun _ h_ => h_.1)))); (case side4 => exact (Kd.R_reads' HO922.out).2.1); (case side5 => refine (Kd.R_reads' (e := 59) (base := w.heap.size) (ok := fun k_ => (((some k_ ≠ (.slice Ao45 t892.length co45 : Value).ownBlock ∧ some k_ ≠ (.slice Ao58 t865.length co58 : Value).ownBlock) ∧ some k_ ≠ (.slice Ao175 t904.length co175 : Value).ownBlock) ∧ some k_ ≠ (.slice Ao186 t917.length co186 : Value).ownBlock)) (n := t841.length) (c := co37) ?_).2.2; exact (by (with_reducible repeat (first | apply Kd.R_alloc | apply Kd.R_drewN | apply Kd.R_drew)); exact (Kd.R_mono (Kd.R_far (p := ⟨gb925, 2, none⟩) (Kd.R_far (p := ⟨gb925, 1, none⟩) (Kd.R_far (p := ⟨gb925, 0, none⟩) (Kd.R_types HO_850001.out BK925.out (by decide)) (fun _ hk => hk.2) (.int .i64 t916)) (fun _ hk => hk.2) (.slice Ao186 t917.length co186)) (fun _ hk => hk.2) (.slice Ao187 t920.length co187)) (fun _ h_ => h_.1)))); (case side6 => exact (Kd.R_reads' HO_850001.out).2.1); (case side7 => refine (Kd.R_reads' (e := 3) (base := w.heap.size) (ok := fun k_ => (((((some k_ ≠ (.slice Ao46 t893.length co46 : Value).ownBlock ∧ some k_ ≠ (.slice Ao59 t868.length co59 : Value).ownBlock) ∧ some k_ ≠ (.slice Ao176 t907.length co176 : Value).ownBlock) ∧ some k_ ≠ (.slice Ao177 t910.length co177 : Value).ownBlock) ∧ some k_ ≠ (.slice Ao178 t913.length co178 : Value).ownBlock) ∧ some k_ ≠ (.slice Ao187 t920.length co187 : Value).ownBlock)) (n := t844.length) (c := co38) ?_).2.2; exact (by (with_reducible repeat (first | apply Kd.R_alloc | apply Kd.R_drewN | apply Kd.R_drew)); exact (Kd.R_mono (Kd.R_far (p := ⟨gb925, 2, none⟩) (Kd.R_far (p := ⟨gb925, 1, none⟩) (Kd.R_far (p := ⟨gb925, 0, none⟩) (Kd.R_types HO_850002.out BK925.out (by decide)) (fun _ hk => hk.2) (.int .i64 t916)) (fun _ hk => hk.2) (.slice Ao186 t917.length co186)) (fun _ hk => hk.2) (.slice Ao187 t920.length co187)) (fun _ h_ => h_.1)))); (case side8 => exact (Kd.R_reads' HO_850002.out).2.1); rintro e w200 ⟨rfl, hb⟩; refine ⟨_, rfl, ?_⟩; have n0_ := Aside0.mk (Kd.R_below (by (with_reducible repeat (first | apply Kd.R_alloc | apply Kd.R_drewN | apply Kd.R_drew)); exact (Kd.R_mono (Kd.R_far (p := ⟨gb925, 2, none⟩) (Kd.R_far (p := ⟨gb925, 1, none⟩) (Kd.R_far (p := ⟨gb925, 0, none⟩) (Kd.R_types HO_850001.out BK925.out (by decide)) (fun _ hk => hk.2) (.int .i64 t916)) (fun _ hk => hk.2) (.slice Ao186 t917.length co186)) (fun _ hk => hk.2) (.slice Ao187 t920.length co187)) (fun _ h_ => h_.1))) hb); have n1_ := Aside0.mk (Kd.R_below (by (with_reducible repeat (first | apply Kd.R_alloc | apply Kd.R_drewN | apply Kd.R_drew)); exact (Kd.R_mono (Kd.R_far (p := ⟨gb925, 2, none⟩) (Kd.R_far (p := ⟨gb925, 1, none⟩) (Kd.R_far (p := ⟨gb925, 0, none⟩) (Kd.R_types HO_850002.out BK925.out (by decide)) (fun _ hk => hk.2) (.int .i64 t916)) (fun _ hk => hk.2) (.slice Ao186 t917.length co186)) (fun _ hk => hk.2) (.slice Ao187 t920.length co187)) (fun _ h_ => h_.1))) hb); have n2_ := Aside0.mk (Kd.R_below (by (with_reducible repeat (first | apply Kd.R_alloc | apply Kd.R_drewN | apply Kd.R_drew)); exact (Kd.R_mono (Kd.R_far (p := ⟨gb925, 2, none⟩) (Kd.R_far (p := ⟨gb925, 1, none⟩) (Kd.R_far (p := ⟨gb925, 0, none⟩) (Kd.R_types HO_858001.out BK925.out (by decide)) (fun _ hk => hk.2) (.int .i64 t916)) (fun _ hk => hk.2) (.slice Ao186 t917.length co186)) (fun _ hk => hk.2) (.slice Ao187 t920.length co187)) (fun _ h_ => h_.1))) hb); have n3_ := Aside0.mk (Kd.R_below (by (with_reducible repeat (first | apply Kd.R_alloc | apply Kd.R_drewN | apply Kd.R_drew)); exact (Kd.R_mono (Kd.R_far (p := ⟨gb925, 2, none⟩) (Kd.R_far (p := ⟨gb925, 1, none⟩) (Kd.R_far (p := ⟨gb925, 0, none⟩) (Kd.R_types HO_858002.out BK925.out (by decide)) (fun _ hk => hk.2) (.int .i64 t916)) (fun _ hk => hk.2) (.slice Ao186 t917.length co186)) (fun _ hk => hk.2) (.slice Ao187 t920.length co187)) (fun _ h_ => h_.1))) hb); have n4_ := Aside0.mk (Kd.R_below (by (with_reducible repeat (first | apply Kd.R_alloc | apply Kd.R_drewN | apply Kd.R_drew)); exact (Kd.R_mono (Kd.R_far (p := ⟨gb925, 2, none⟩) (Kd.R_far (p := ⟨gb925, 1, none⟩) (Kd.R_far (p := ⟨gb925, 0, none⟩) (Kd.R_types HO_874001.out BK925.out (by decide)) (fun _ hk => hk.2) (.int .i64 t916)) (fun _ hk => hk.2) (.slice Ao186 t917.length co186)) (fun _ hk => hk.2) (.slice Ao187 t920.length co187)) (fun _ h_ => h_.1))) hb); have n5_ := Aside0.mk (Kd.R_below (by (with_reducible repeat (first | apply Kd.R_alloc | apply Kd.R_drewN | apply Kd.R_drew)); exact (Kd.R_mono (Kd.R_far (p := ⟨gb925, 2, none⟩) (Kd.R_far (p := ⟨gb925, 1, none⟩) (Kd.R_far (p := ⟨gb925, 0, none⟩) (Kd.R_types HO_874002.out BK925.out (by decide)) (fun _ hk => hk.2) (.int .i64 t916)) (fun _ hk => hk.2) (.slice Ao186 t917.length co186)) (fun _ hk => hk.2) (.slice Ao187 t920.length co187)) (fun _ h_ => h_.1))) hb); have n6_ := Aside0.mk (Kd.R_below (by (with_reducible repeat (first | apply Kd.R_alloc | apply Kd.R_drewN | apply Kd.R_drew)); exact (Kd.R_mono (Kd.R_far (p := ⟨gb925, 2, none⟩) (Kd.R_far (p := ⟨gb925, 1, none⟩) (Kd.R_far (p := ⟨gb925, 0, none⟩) (Kd.R_types HO906.out BK925.out (by decide)) (fun _ hk => hk.2) (.int .i64 t916)) (fun _ hk => hk.2) (.slice Ao186 t917.length co186)) (fun _ hk => hk.2) (.slice Ao187 t920.length co187)) (fun _ h_ => h_.1))) hb); have n7_ := Aside0.mk (Kd.R_below (by (with_reducible repeat (first | apply Kd.R_alloc | apply Kd.R_drewN | apply Kd.R_drew)); exact (Kd.R_mono (Kd.R_far (p := ⟨gb925, 2, none⟩) (Kd.R_far (p := ⟨gb925, 1, none⟩) (Kd.R_far (p := ⟨gb925, 0, none⟩) (Kd.R_types HO909.out BK925.out (by decide)) (fun _ hk => hk.2) (.int .i64 t916)) (fun _ hk => hk.2) (.slice Ao186 t917.length co186)) (fun _ hk => hk.2) (.slice Ao187 t920.length co187)) (fun _ h_ => h_.1))) hb); have n8_ := Aside0.mk (Kd.R_below (by (with_reducible repeat (first | apply Kd.R_alloc | apply Kd.R_drewN | apply Kd.R_drew)); exact (Kd.R_mono (Kd.R_far (p := ⟨gb925, 2, none⟩) (Kd.R_far (p := ⟨gb925, 1, none⟩) (Kd.R_far (p := ⟨gb925, 0, none⟩) (Kd.R_types HO912.out BK925.out (by decide)) (fun _ hk => hk.2) (.int .i64 t916)) (fun _ hk => hk.2) (.slice Ao186 t917.length co186)) (fun _ hk => hk.2) (.slice Ao187 t920.length co187)) (fun _ h_ => h_.1))) hb); have n9_ := Aside0.mk (Kd.R_below (by (with_reducible repeat (first | apply Kd.R_alloc | apply Kd.R_drewN | apply Kd.R_drew)); exact (Kd.R_mono (Kd.R_far (p := ⟨gb925, 2, none⟩) (Kd.R_far (p := ⟨gb925, 1, none⟩) (Kd.R_far (p := ⟨gb925, 0, none⟩) (Kd.R_types HO915.out BK925.out (by decide)) (fun _ hk => hk.2) (.int .i64 t916)) (fun _ hk => hk.2) (.slice Ao186 t917.length co186)) (fun _ hk => hk.2) (.slice Ao187 t920.length co187)) (fun _ h_ => h_.1))) hb); have n10_ := Aside0.mk (Kd.R_below (by (with_reducible repeat (first | apply Kd.R_alloc | apply Kd.R_drewN | apply Kd.R_drew)); exact (Kd.R_mono (Kd.R_far (p := ⟨gb925, 2, none⟩) (Kd.R_far (p := ⟨gb925, 1, none⟩) (Kd.R_far (p := ⟨gb925, 0, none⟩) (Kd.R_types HO919.out BK925.out (by decide)) (fun _ hk => hk.2) (.int .i64 t916)) (fun _ hk => hk.2) (.slice Ao186 t917.length co186)) (fun _ hk => hk.2) (.slice Ao187 t920.length co187)) (fun _ h_ => h_.1))) hb); have n11_ := Aside0.mk (Kd.R_below (by (with_reducible repeat (first | apply Kd.R_alloc | apply Kd.R_drewN | apply Kd.R_drew)); exact (Kd.R_mono (Kd.R_far (p := ⟨gb925, 2, none⟩) (Kd.R_far (p := ⟨gb925, 1, none⟩) (Kd.R_far (p := ⟨gb925, 0, none⟩) (Kd.R_types HO922.out BK925.out (by decide)) (fun _ hk => hk.2) (.int .i64 t916)) (fun _ hk => hk.2) (.slice Ao186 t917.length co186)) (fun _ hk => hk.2) (.slice Ao187 t920.length co187)) (fun _ h_ => h_.1))) hb); have n12_ := Aside0.mk (blk_below (g := gb825) (o := .cells #[.int .i64 a0_0, .slice A0_1 l0_1.length c0_1, .slice A0_2 l0_2.length c0_2] 25 (0, 0)) (qF BK825.out) hb); have n13_ := Aside0.mk (blk_below (g := gb849) (o := .cells #[.int .i64 t840, .slice Ao37 t841.length co37, .slice Ao38 t844.length co38] 30 (0, 0)) (qF BK849.out) hb); have n14_ := Aside0.mk (blk_below (g := gb857) (o := .cells #[.int .i64 t850, .slice Ao45 t892.length co45, .slice Ao46 t893.length co46] 30 (0, 0)) (qF BK857.out) hb); have n15_ := Aside0.mk (blk_below (g := gb873) (o := .cells #[.int .i64 t864, .slice Ao58 t865.length co58, .slice Ao59 t868.length co59] 30 (0, 0)) (qF BK873.out) hb); have n16_ := Aside0.mk (blk_below (g := gb925) (o := .cells #[.int .i64 t916, .slice Ao186 t917.length co186, .slice Ao187 t920.length co187] 30 (0, 0)) (by (with_reducible repeat (first | refine blk_drewN ?_ _ | refine blk_drew ?_ | refine blk_alloc ?_ _)); refine blk_put (cs := #[.int .i64 t916, .slice Ao186 t917.length co186, .slice none 0 0]) ?_ 2 _ rfl; refine blk_put (cs := #[.int .i64 t916, .slice none 0 0, .slice none 0 0]) ?_ 1 _ rfl; refine blk_put (cs := #[.int .i64 0, .slice none 0 0, .slice none 0 0]) ?_ 0 _ rfl; exact qK BK925.out) hb); have n17_ := Aside0.mk (below_step (qB) hb); clear HO_850001; clear HO_850002; clear HO_858001; clear HO_858002; clear HO_874001; clear HO_874002; clear HO906; clear HO909; clear HO912; clear HO915; clear HO919; clear HO922; clear BK825; clear BK849; clear BK857; clear BK873; clear BK925; clear HB; have HO_850001 := n0_; have HO_850002 := n1_; have HO_858001 := n2_; have HO_858002 := n3_; have HO_874001 := n4_; have HO_874002 := n5_; have HO906 := n6_; have HO909 := n7_; have HO912 := n8_; have HO915 := n9_; have HO919 := n10_; have HO922 := n11_; have BK825 := n12_; have BK849 := n13_; have BK857 := n14_; have BK873 := n15_; have BK925 := n16_; have HB := n17_; clear n0_ n1_ n2_ n3_ n4_ n5_ n6_ n7_ n8_ n9_ n10_ n11_ n12_ n13_ n14_ n15_ n16_ n17_; (try clear hb); (try clear hb2); (try clear hk); (try clear hi)))
                  go_meet
                  case rel => exact ⟨_, ((t924 != t848)), qS, H', ⟨by have := HJ20.out; have := HJ99.out; first | omega | exact Nat.le_refl _⟩, ⟨by (try simp only [hl858001_99]); (try simp only [hl858002_99]); (with_reducible repeat (first | apply Kd.R_alloc | apply Kd.R_drewN | apply Kd.R_drew)); exact Kd.R_mono HO_850001.out (fun _ hk => ⟨hk.1.1.1, ⟨hk.1.1.2, hk.2⟩⟩)⟩, ⟨by (try simp only [hl858001_99]); (try simp only [hl858002_99]); (with_reducible repeat (first | apply Kd.R_alloc | apply Kd.R_drewN | apply Kd.R_drew)); exact Kd.R_mono HO_850002.out (fun _ hk => ⟨hk.1.1.1.1.1, ⟨hk.1.1.1.1.2, hk.2⟩⟩)⟩, ⟨by (try simp only [hl858001_99]); (try simp only [hl858002_99]); (with_reducible repeat (first | apply Kd.R_alloc | apply Kd.R_drewN | apply Kd.R_drew)); exact Kd.R_mono HO_858001.out (fun _ hk => ⟨hk.1.1.1, ⟨hk.1.1.2, hk.2⟩⟩)⟩, ⟨by (try simp only [hl858001_99]); (try simp only [hl858002_99]); (with_reducible repeat (first | apply Kd.R_alloc | apply Kd.R_drewN | apply Kd.R_drew)); exact Kd.R_mono HO_858002.out (fun _ hk => ⟨hk.1.1.1.1.1, ⟨hk.1.1.1.1.2, hk.2⟩⟩)⟩, ⟨by (try simp only [hl858001_99]); (try simp only [hl858002_99]); (with_reducible repeat (first | apply Kd.R_alloc | apply Kd.R_drewN | apply Kd.R_drew)); exact Kd.R_mono HO_874001.out (fun _ hk => ⟨hk.1.1.1, ⟨hk.1.1.2, hk.2⟩⟩)⟩, ⟨by (try simp only [hl858001_99]); (try simp only [hl858002_99]); (with_reducible repeat (first | apply Kd.R_alloc | apply Kd.R_drewN | apply Kd.R_drew)); exact Kd.R_mono HO_874002.out (fun _ hk => ⟨hk.1.1.1.1.1, ⟨hk.1.1.1.1.2, hk.2⟩⟩)⟩, ⟨by (try simp only [hl858001_99]); (try simp only [hl858002_99]); (with_reducible repeat (first | apply Kd.R_alloc | apply Kd.R_drewN | apply Kd.R_drew)); exact Kd.R_mono HO919.out (fun _ hk => ⟨hk.1.1.1.2, ⟨hk.1.1.2, hk.1.2⟩⟩)⟩, ⟨by (try simp only [hl858001_99]); (try simp only [hl858002_99]); (with_reducible repeat (first | apply Kd.R_alloc | apply Kd.R_drewN | apply Kd.R_drew)); exact Kd.R_mono HO922.out (fun _ hk => ⟨hk.1.1.1.1.1.2, ⟨hk.1.1.1.1.2, hk.1.1.1.2⟩⟩)⟩, ⟨by (try simp only [hl858001_99]); (try simp only [hl858002_99]); exact qK BK825.out⟩, ⟨by (try simp only [hl858001_99]); (try simp only [hl858002_99]); exact qK BK849.out⟩, ⟨by (try simp only [hl858001_99]); (try simp only [hl858002_99]); exact qK BK857.out⟩, ⟨by (try simp only [hl858001_99]); (try simp only [hl858002_99]); exact qK BK873.out⟩, ⟨by (try simp only [hl858001_99]); (try simp only [hl858002_99]); exact qK BK925.out⟩, ⟨qB⟩⟩
                 ·rw [if_neg c190] at H
                  exact absurd H (by cases kj99 <;> simp [laws_FnExactLessGates.j2])
                ·replace c189 := Bool.eq_false_iff.mpr c189
                 subst c189
                 have H1 : (laws_FnExactLessGates.j2 kj99 t899 true t864 t900 t901) = some true := by rw [if_neg (show ¬ (false = true) by decide)] at H; exact H
                 exact absurd H1 (by cases kj99 <;> simp [laws_FnExactLessGates.j2])
               case rest =>
                clear HC161
                try clear c1
                try clear c2
                try clear p2
                try clear c3
                try clear c4
                try clear c4b0
                try clear c4b1
                try clear c5
                try clear c6
                try clear c6b0
                try clear c6b1
                try clear c7
                try clear c8
                try clear c9
                try clear c9b0
                try clear c11
                try clear c12
                try clear c13
                try clear c14
                try clear c15
                try clear c16
                try clear c17
                try clear c18
                try clear c19
                try clear c20
                try clear c21
                try clear c27
                try clear c28
                try clear c32
                try clear c34
                try clear c35
                try clear c36
                try clear c37
                try clear c42
                try clear c43
                try clear c54
                try clear c55
                try clear c56
                try clear c61
                try clear c62
                try clear c62b0
                try clear c62b1
                try clear c63
                try clear c64
                try clear c65
                try clear c67
                try clear c68
                try clear c71
                try clear c72
                try clear c73
                try clear c75
                try clear c76
                try clear c79
                try clear c80
                try clear c81
                try clear c83
                try clear c84
                try clear c87
                try clear c90
                try clear c93
                try clear c96
                try clear c110
                try clear c111
                try clear c112
                try clear c117
                try clear c117b0
                try clear c119
                try clear c120
                try clear c120b0
                try clear c120b1
                try clear c121
                try clear c122
                try clear c123
                try clear c125
                try clear c126
                try clear c129
                try clear c130
                try clear c131
                try clear c133
                try clear c134
                try clear c137
                try clear c138
                try clear c139
                try clear c141
                try clear c142
                try clear c145
                try clear c148
                try clear c148b0
                try clear c149
                try clear c150
                try clear c151
                try clear c156
                try clear c156b0
                try clear c156b1
                try clear c162
                try clear c163
                try clear c164
                try clear c169
                try clear c170
                try clear c181
                try clear c182
                try clear c183
                try clear c184
                try clear c189
                try clear c190
                try clear c190b0
                try clear c190b1
                try clear c191
                try clear c192
                try clear c193
                try clear c194
                try clear c196
                try clear c197
                try clear c198
                try clear c201
                try clear c202
                try clear c203
                try clear c204
                try clear c206
                try clear c207
                try clear c208
                try clear c211
                try clear c212
                try clear c213
                try clear c214
                try clear c216
                try clear c217
                try clear c218
                try clear hcz113_0
                try clear hcz113_1
                try clear hcz113_2
                try clear hcz11_0
                try clear hcz11_1
                try clear hcz11_2
                try clear hcz124_0
                try clear hcz124_1
                try clear hcz124_2
                try clear hcz127_0
                try clear hcz127_1
                try clear hcz127_2
                try clear hcz132_0
                try clear hcz132_1
                try clear hcz132_2
                try clear hcz135_0
                try clear hcz135_1
                try clear hcz135_2
                try clear hcz140_0
                try clear hcz140_1
                try clear hcz140_2
                try clear hcz143_0
                try clear hcz143_1
                try clear hcz143_2
                try clear hcz152_0
                try clear hcz152_1
                try clear hcz152_2
                try clear hcz154_0
                try clear hcz154_1
                try clear hcz154_2
                try clear hcz165_0
                try clear hcz165_1
                try clear hcz165_2
                try clear hcz167_0
                try clear hcz167_1
                try clear hcz167_2
                try clear hcz171_0
                try clear hcz171_1
                try clear hcz171_2
                try clear hcz185_0
                try clear hcz185_1
                try clear hcz185_2
                try clear hcz195_0
                try clear hcz195_1
                try clear hcz195_2
                try clear hcz199_0
                try clear hcz199_1
                try clear hcz199_2
                try clear hcz205_0
                try clear hcz205_1
                try clear hcz205_2
                try clear hcz209_0
                try clear hcz209_1
                try clear hcz209_2
                try clear hcz215_0
                try clear hcz215_1
                try clear hcz215_2
                try clear hcz219_0
                try clear hcz219_1
                try clear hcz219_2
                try clear hcz23_0
                try clear hcz23_1
                try clear hcz23_2
                try clear hcz25_0
                try clear hcz25_1
                try clear hcz25_2
                try clear hcz36_0
                try clear hcz36_1
                try clear hcz36_2
                try clear hcz39_0
                try clear hcz39_1
                try clear hcz39_2
                try clear hcz44_0
                try clear hcz44_1
                try clear hcz44_2
                try clear hcz49_0
                try clear hcz49_1
                try clear hcz49_2
                try clear hcz57_0
                try clear hcz57_1
                try clear hcz57_2
                try clear hcz66_0
                try clear hcz66_1
                try clear hcz66_2
                try clear hcz69_0
                try clear hcz69_1
                try clear hcz69_2
                try clear hcz74_0
                try clear hcz74_1
                try clear hcz74_2
                try clear hcz77_0
                try clear hcz77_1
                try clear hcz77_2
                try clear hcz82_0
                try clear hcz82_1
                try clear hcz82_2
                try clear hcz85_0
                try clear hcz85_1
                try clear hcz85_2
                try clear hfz113_0
                try clear hfz113_1
                try clear hfz113_2
                try clear hfz11_0
                try clear hfz11_1
                try clear hfz11_2
                try clear hfz124_0
                try clear hfz124_1
                try clear hfz124_2
                try clear hfz127_0
                try clear hfz127_1
                try clear hfz127_2
                try clear hfz132_0
                try clear hfz132_1
                try clear hfz132_2
                try clear hfz135_0
                try clear hfz135_1
                try clear hfz135_2
                try clear hfz140_0
                try clear hfz140_1
                try clear hfz140_2
                try clear hfz143_0
                try clear hfz143_1
                try clear hfz143_2
                try clear hfz152_0
                try clear hfz152_1
                try clear hfz152_2
                try clear hfz154_0
                try clear hfz154_1
                try clear hfz154_2
                try clear hfz165_0
                try clear hfz165_1
                try clear hfz165_2
                try clear hfz167_0
                try clear hfz167_1
                try clear hfz167_2
                try clear hfz171_0
                try clear hfz171_1
                try clear hfz171_2
                try clear hfz185_0
                try clear hfz185_1
                try clear hfz185_2
                try clear hfz195_0
                try clear hfz195_1
                try clear hfz195_2
                try clear hfz199_0
                try clear hfz199_1
                try clear hfz199_2
                try clear hfz205_0
                try clear hfz205_1
                try clear hfz205_2
                try clear hfz209_0
                try clear hfz209_1
                try clear hfz209_2
                try clear hfz215_0
                try clear hfz215_1
                try clear hfz215_2
                try clear hfz219_0
                try clear hfz219_1
                try clear hfz219_2
                try clear hfz23_0
                try clear hfz23_1
                try clear hfz23_2
                try clear hfz25_0
                try clear hfz25_1
                try clear hfz25_2
                try clear hfz36_0
                try clear hfz36_1
                try clear hfz36_2
                try clear hfz39_0
                try clear hfz39_1
                try clear hfz39_2
                try clear hfz44_0
                try clear hfz44_1
                try clear hfz44_2
                try clear hfz49_0
                try clear hfz49_1
                try clear hfz49_2
                try clear hfz57_0
                try clear hfz57_1
                try clear hfz57_2
                try clear hfz66_0
                try clear hfz66_1
                try clear hfz66_2
                try clear hfz69_0
                try clear hfz69_1
                try clear hfz69_2
                try clear hfz74_0
                try clear hfz74_1
                try clear hfz74_2
                try clear hfz77_0
                try clear hfz77_1
                try clear hfz77_2
                try clear hfz82_0
                try clear hfz82_1
                try clear hfz82_2
                try clear hfz85_0
                try clear hfz85_1
                try clear hfz85_2
                try clear p2
                obtain ⟨kq, x150_160, rfl, HA, HJ160, HO_850001, HO_850002, HO_858001, HO_858002, HO_874001, HO_874002, HO_926001, HO_926002, BK825, BK849, BK857, BK873, BK925, HB⟩ := hcut
                have hl874001_160 := (Kd.R_reads' HO_874001.out).1
                rw [hl874001_160] at HO_874001
                (try simp only [hl874001_160])
                (try simp only [hl874001_160] at BK825)
                (try simp only [hl874001_160] at BK849)
                (try simp only [hl874001_160] at BK857)
                (try simp only [hl874001_160] at BK873)
                (try simp only [hl874001_160] at BK925)
                (try simp only [hl874001_160] at HO_850001)
                (try simp only [hl874001_160] at HO_850002)
                (try simp only [hl874001_160] at HO_858001)
                (try simp only [hl874001_160] at HO_858002)
                (try simp only [hl874001_160] at HO_874002)
                (try simp only [hl874001_160] at HO_926001)
                (try simp only [hl874001_160] at HO_926002)
                have hl874002_160 := (Kd.R_reads' HO_874002.out).1
                rw [hl874002_160] at HO_874002
                (try simp only [hl874002_160])
                (try simp only [hl874002_160] at BK825)
                (try simp only [hl874002_160] at BK849)
                (try simp only [hl874002_160] at BK857)
                (try simp only [hl874002_160] at BK873)
                (try simp only [hl874002_160] at BK925)
                (try simp only [hl874002_160] at HO_850001)
                (try simp only [hl874002_160] at HO_850002)
                (try simp only [hl874002_160] at HO_858001)
                (try simp only [hl874002_160] at HO_858002)
                (try simp only [hl874002_160] at HO_874001)
                (try simp only [hl874002_160] at HO_926001)
                (try simp only [hl874002_160] at HO_926002)
                cases kq with
                | zero => exact absurd HA.out (by simp [laws_FnExactLessGates.j2])
                | succ kj160 =>
                 have H := HA.out
                 clear HA
                 simp only [laws_FnExactLessGates.j2] at H
                 by_cases c221 : x150_160 = true
                 ·subst c221
                  have H1 : (some false) = some true := by rw [if_pos rfl] at H; exact H
                  exact absurd H1 (by simp)
                 ·replace c221 := Bool.eq_false_iff.mpr c221
                  subst c221
                  have H1 : ((laws_heldCircuit.f kj160 t864 t900 t901 1).bind fun t927 => (if t927 < 0 then (some false) else (if t927 = t899 then (some true) else (some false)))) = some true := by rw [if_neg (show ¬ (false = true) by decide)] at H; exact H
                  clear H
                  have H := H1
                  clear H1
                  replace H := Option.bind_eq_some_iff.mp H
                  obtain ⟨t927, A2220, H⟩ := H
                  replace H : (if t927 < 0 then (some false) else (if t927 = t899 then (some true) else (some false))) = some true := H
                  have A222 := Aside0.mk A2220
                  clear A2220
                  by_cases c223 : t927 < 0
                  ·rw [if_pos c223] at H
                   exact absurd H (by simp)
                  ·rw [if_neg c223] at H
                   have c223b0 : decide (t927 < 0) = false := decide_eq_false c223
                   clear c223
                   by_cases c230 : t927 = t899
                   ·rw [if_pos c230] at H
                    have c230b0 : (t927 == t899) = true := beq_iff_eq.mpr c230
                    have c230b1 : (t927 != t899) = false := bne_eq_false_iff_eq.mpr c230
                    clear c230
                    have hnb231 := NB873_825.out
                    have hnc231 := NB825_873.out
                    have hnb232 := NB873_849.out
                    have hnc232 := NB849_873.out
                    have hnb233 := NB873_857.out
                    have hnc233 := NB857_873.out
                    have hnb234 := NB873_925.out
                    have hnc234 := NB925_873.out
                    have hcz235_0 : wc.cell? ⟨gb873, 0, none⟩ = some (.int .i64 t864) := (blk_cell BK873.out 0).trans rfl
                    have hcz235_1 : wc.cell? ⟨gb873, 1, none⟩ = some (.slice Ao58 t900.length co58) := (blk_cell BK873.out 1).trans rfl
                    have hcz235_2 : wc.cell? ⟨gb873, 2, none⟩ = some (.slice Ao59 t901.length co59) := (blk_cell BK873.out 2).trans rfl
                    have hfz235_0 := blk_frozen BK873.out 0
                    have hfz235_1 := blk_frozen BK873.out 1
                    have hfz235_2 := blk_frozen BK873.out 2
                    go_wp2_with (first | ((with_reducible refine gate_callee (f := 32) rfl ?_); refine goesL_ (some 153) rfl rfl Try.func32 (by kernel_rfl) rfl #[.agg #[.int .i64 t864, .slice Ao58 t900.length co58, .slice Ao59 t901.length co59], .int .i64 1] rfl qG ?_; (with_reducible refine (laws_heldCircuit.calls kj160 t864 _ _ t900 _ _ t901 1 t927 _ ?side1 ?side2 ?side3 ?side4 A222.out).mono ?_); (case side1 => repeat (first | exact (Kd.R_reads' HO_874001.out).2.2 | (with_reducible refine Kd.C_alloc ?_ _) | (with_reducible refine Kd.C_drewN ?_ _) | (with_reducible refine Kd.C_drew ?_))); (case side2 => exact (Kd.R_reads' HO_874001.out).2.1); (case side3 => repeat (first | exact (Kd.R_reads' HO_874002.out).2.2 | (with_reducible refine Kd.C_alloc ?_ _) | (with_reducible refine Kd.C_drewN ?_ _) | (with_reducible refine Kd.C_drew ?_))); (case side4 => exact (Kd.R_reads' HO_874002.out).2.1); rintro e w236 ⟨rfl, hb⟩; refine ⟨_, rfl, ?_⟩; have n0_ := Aside0.mk (Kd.R_below (qR HO_850001.out) hb); have n1_ := Aside0.mk (Kd.R_below (qR HO_850002.out) hb); have n2_ := Aside0.mk (Kd.R_below (qR HO_858001.out) hb); have n3_ := Aside0.mk (Kd.R_below (qR HO_858002.out) hb); have n4_ := Aside0.mk (Kd.R_below (qR HO_874001.out) hb); have n5_ := Aside0.mk (Kd.R_below (qR HO_874002.out) hb); have n6_ := Aside0.mk (Kd.R_below (qR HO_926001.out) hb); have n7_ := Aside0.mk (Kd.R_below (qR HO_926002.out) hb); have n8_ := Aside0.mk (blk_below (g := gb825) (o := .cells #[.int .i64 a0_0, .slice A0_1 l0_1.length c0_1, .slice A0_2 l0_2.length c0_2] 25 (0, 0)) (qK BK825.out) hb); have n9_ := Aside0.mk (blk_below (g := gb849) (o := .cells #[.int .i64 t840, .slice Ao37 t841.length co37, .slice Ao38 t844.length co38] 30 (0, 0)) (qK BK849.out) hb); have n10_ := Aside0.mk (blk_below (g := gb857) (o := .cells #[.int .i64 t850, .slice Ao45 t892.length co45, .slice Ao46 t893.length co46] 30 (0, 0)) (qK BK857.out) hb); have n11_ := Aside0.mk (blk_below (g := gb873) (o := .cells #[.int .i64 t864, .slice Ao58 t900.length co58, .slice Ao59 t901.length co59] 30 (0, 0)) (qK BK873.out) hb); have n12_ := Aside0.mk (blk_below (g := gb925) (o := .cells #[.int .i64 t916, .slice Ao186 t917.length co186, .slice Ao187 t920.length co187] 30 (0, 0)) (qK BK925.out) hb); have n13_ := Aside0.mk (below_step (qB) hb); clear HO_850001; clear HO_850002; clear HO_858001; clear HO_858002; clear HO_874001; clear HO_874002; clear HO_926001; clear HO_926002; clear BK825; clear BK849; clear BK857; clear BK873; clear BK925; clear HB; have HO_850001 := n0_; have HO_850002 := n1_; have HO_858001 := n2_; have HO_858002 := n3_; have HO_874001 := n4_; have HO_874002 := n5_; have HO_926001 := n6_; have HO_926002 := n7_; have BK825 := n8_; have BK849 := n9_; have BK857 := n10_; have BK873 := n11_; have BK925 := n12_; have HB := n13_; clear n0_ n1_ n2_ n3_ n4_ n5_ n6_ n7_ n8_ n9_ n10_ n11_ n12_ n13_; (try clear hb); (try clear hb2); (try clear hk); (try clear hi)))
                    go_ret
                    exact ⟨qE, qB⟩
                   ·rw [if_neg c230] at H
                    exact absurd H (by simp)
              ·rw [if_neg c156] at H
               exact absurd H (by simp)
         ·replace c96 := Bool.eq_false_iff.mpr c96
          subst c96
          have H1 : (some false) = some true := by rw [if_neg (show ¬ (false = true) by decide)] at H; exact H
          exact absurd H1 (by simp)
        ·replace c93 := Bool.eq_false_iff.mpr c93
         subst c93
         have H1 : (some false) = some true := by rw [if_neg (show ¬ (false = true) by decide)] at H; exact H
         exact absurd H1 (by simp)
       ·replace c90 := Bool.eq_false_iff.mpr c90
        subst c90
        have H1 : (some false) = some true := by rw [if_neg (show ¬ (false = true) by decide)] at H; exact H
        exact absurd H1 (by simp)
/-- THE PURE STATEMENT of laws_FnExactLessGates. -/
def laws_FnExactLessGates.Pure : Prop := ∀ (a0_0 : Int) (l0_1 : List (S82)) (l0_2 : List Int) (l1 : List Int) (l2 : List Int), (Lit.int .i64 a0_0).wf = true → ((l0_1).length ≤ maxLen ∧ ∀ y ∈ l0_1, wf82 y) → ((l0_2).length ≤ maxLen ∧ ∀ y ∈ l0_2, (Lit.int .i64 y).wf = true) → ((l1).length ≤ maxLen ∧ ∀ y ∈ l1, (Lit.int .i64 y).wf = true) → ((l2).length ≤ maxLen ∧ ∀ y ∈ l2, (Lit.int .i64 y).wf = true) → ∃ k, laws_FnExactLessGates.f k a0_0 l0_1 l0_2 l1 l2 = some true
theorem laws_FnExactLessGates.walk (P : laws_FnExactLessGates.Pure) (a0_0 : Int) (A0_1 : Option Addr) (c0_1 : Nat) (l0_1 : List (S82)) (A0_2 : Option Addr) (c0_2 : Nat) (l0_2 : List Int) (A1 : Option Addr) (c1 : Nat) (l1 : List Int) (A2 : Option Addr) (c2 : Nat) (l2 : List Int) (w : World) (hr0_1 : Kd.C k82 w A0_1 l0_1.length l0_1) (hc0_1 : l0_1.length ≤ c0_1) (hr0_2 : Kd.C (Kd.int .i64) w A0_2 l0_2.length l0_2) (hc0_2 : l0_2.length ≤ c0_2) (hr1 : Kd.C (Kd.int .i64) w A1 l1.length l1) (hc1 : l1.length ≤ c1) (hr2 : Kd.C (Kd.int .i64) w A2 l2.length l2) (hc2 : l2.length ≤ c2) (w0_0 : (Lit.int .i64 a0_0).wf = true) (w0_1 : ((l0_1).length ≤ maxLen ∧ ∀ y ∈ l0_1, wf82 y)) (w0_2 : ((l0_2).length ≤ maxLen ∧ ∀ y ∈ l0_2, (Lit.int .i64 y).wf = true)) (w1 : ((l1).length ≤ maxLen ∧ ∀ y ∈ l1, (Lit.int .i64 y).wf = true)) (w2 : ((l2).length ≤ maxLen ∧ ∀ y ∈ l2, (Lit.int .i64 y).wf = true)) :
  Calls Try.prog 9 #[.agg #[.int .i64 a0_0, .slice A0_1 l0_1.length c0_1, .slice A0_2 l0_2.length c0_2], .slice A1 l1.length c1, .slice A2 l2.length c2] w fun e w' => e = .returned (.bool true) ∧ Below w.heap.size w w' := by
 obtain ⟨k, h⟩ := P a0_0 l0_1 l0_2 l1 l2 w0_0 w0_1 w0_2 w1 w2
 refine (laws_FnExactLessGates.calls k a0_0 A0_1 c0_1 l0_1 A0_2 c0_2 l0_2 A1 c1 l1 A2 c2 l2 true w hr0_1 hc0_1 hr0_2 hc0_2 hr1 hc1 hr2 hc2 h).mono ?_
 rintro e w' ⟨rfl, hd⟩
 exact ⟨rfl, hd⟩

end Go.Proofs.Ytimkjhdopncimaa.X
